/-
  Package bus: the map of faults.
  No conditions.
-/
import Derived.Test.YtpolofolibabiaaBusN
import Derived.Maps.Keyed
import Derived.MapKept
namespace Go.Proofs.Ytpolofolibabiaa.Bs
open Go Go.RowKit Go.Lib Go.Proofs.YtpolofolibabiaaW.PrintWords Go.Proofs.YtpolofolibabiaaW.PrintLast Go.Proofs.YtpolofolibabiaaW.PrintMore
set_option linter.unusedVariables false
set_option linter.unusedSimpArgs false
def faultAt (F : List Fl) (k : Int) : Fl := (F.find? (fun f => decide (f.at_ = k))).getD Fl.no
theorem findNow_int (k : Int) : ∀ (l : List MapEntry) (i : Nat), (∀ e ∈ l, ∃ n, e.key = .int .i64 n) → ∃ r, Instr.findNow (.int .i64) (.int .i64 k) l i = some r ∧ r.map (·.2) = (l.find? (keyIs k)).map (·.val)
  | [], i, _ => ⟨none, rfl, rfl⟩
  | e :: l, i, h => by
    obtain ⟨n, hn⟩ := h e List.mem_cons_self
    have hs : Instr.sameNow (.int .i64) (.int .i64 k) e.key = some (k == n) := by rw [hn]; rfl
    have hk : keyIs k e = (n == k) := by unfold keyIs; rw [hn]
    unfold Instr.findNow
    rw [hs]
    by_cases hkn : k = n
    · subst hkn
      refine ⟨some (i, e.val), by simp, ?_⟩
      rw [List.find?_cons_of_pos (by rw [hk]; simp)]
      rfl
    · obtain ⟨r, h1, h2⟩ := findNow_int k l (i + 1) (fun e he => h e (List.mem_cons_of_mem _ he))
      refine ⟨r, ?_, ?_⟩
      · rw [show (k == n) = false by simp [hkn]]
        exact h1
      · rw [List.find?_cons_of_neg (by rw [hk]; simp; omega)]
        exact h2
theorem undK : Try.prog.underlying 72 = some (.map 3 54) := by kernel_rfl
theorem undI : Try.prog.underlying 3 = some (.int .i64) := by kernel_rfl
theorem zeroF (w : World) : (zeroValue 54).run Try.prog w = .ok (encF Fl.no) w := by kernel_rfl
theorem check_int (w : World) (b : Bool) (k : Int) : (Instr.checkKey b 10000 3 (.int .i64 k)).run Try.prog w = .ok () w := by
  unfold Instr.checkKey
  simp [run_underlying undI]
theorem find_run (w : World) (k : Int) (es : Array MapEntry) (h : ∀ e ∈ es.toList, ∃ n, e.key = .int .i64 n) : ∃ r, (Instr.findKey 3 (.int .i64 k) es.toList).run Try.prog w = .ok r w ∧ r.map (·.2) = (es.toList.find? (keyIs k)).map (·.val) := by
  obtain ⟨r, h1, h2⟩ := findNow_int k es.toList 0 h
  exact ⟨r, MapKept.run_findKey undI h1, h2⟩
theorem lookup_ (w : World) (fm ck : Nat) (es : Array MapEntry) (F : List Fl) (h : w.heap[fm]? = some (.map es ck)) (hm : MapF es F) (k : Int) : (Instr.lookup 72 (.map (some fm)) (.int .i64 k) false).run Try.prog w = .ok (encF (faultAt F k)) w := by
  obtain ⟨r, h1, h2⟩ := find_run w k es hm.1
  have hv := hm.2 k
  rw [← h2] at hv
  simp [Instr.lookup, run_underlying undK, MapKept.run_getObj_map h, check_int, h1, Result.andThen]
  cases r with
  | none =>
    cases hF : F.find? (fun f => decide (f.at_ = k)) with
    | none => simp [faultAt, hF, zeroF]; try rfl
    | some f => rw [hF] at hv; simp at hv
  | some r =>
    cases hF : F.find? (fun f => decide (f.at_ = k)) with
    | none => rw [hF] at hv; simp at hv
    | some f => rw [hF] at hv; simp at hv; simp [faultAt, hF, hv]
theorem lookup_ok (w : World) (fm ck : Nat) (es : Array MapEntry) (F : List Fl) (h : w.heap[fm]? = some (.map es ck)) (hm : MapF es F) (k : Int) : (Instr.lookup 72 (.map (some fm)) (.int .i64 k) true).run Try.prog w = .ok (.tuple #[encF (faultAt F k), .bool (F.any (fun f => decide (f.at_ = k)))]) w := by
  obtain ⟨r, h1, h2⟩ := find_run w k es hm.1
  have hv := hm.2 k
  rw [← h2] at hv
  simp [Instr.lookup, run_underlying undK, MapKept.run_getObj_map h, check_int, h1, Result.andThen]
  cases r with
  | none =>
    cases hF : F.find? (fun f => decide (f.at_ = k)) with
    | none =>
      have ha : F.any (fun f => decide (f.at_ = k)) = false := by rw [← Bool.not_eq_true, List.any_eq_true]; rintro ⟨x, hx, hxk⟩; exact (List.find?_eq_none.1 hF x hx) hxk
      simp [faultAt, hF, zeroF, ha]; try rfl
    | some f => rw [hF] at hv; simp at hv
  | some r =>
    cases hF : F.find? (fun f => decide (f.at_ = k)) with
    | none => rw [hF] at hv; simp at hv
    | some f =>
      have ha : F.any (fun f => decide (f.at_ = k)) = true := List.any_eq_true.2 ⟨f, List.mem_of_find?_eq_some hF, by have := List.find?_some (p := fun f : Fl => decide (f.at_ = k)) hF; exact this⟩
      rw [hF] at hv
      simp at hv
      simp [faultAt, hF, hv, ha]
/-- The first fault of its number is put into the map. -/
theorem update_ (w : World) (fm ck : Nat) (es : Array MapEntry) (F : List Fl) (h : w.heap[fm]? = some (.map es ck)) (hm : MapF es F) (f : Fl) (hn : F.any (fun g => decide (g.at_ = f.at_)) = false) : ∃ w', (Instr.mapUpdate 72 (.map (some fm)) (.int .i64 f.at_) (encF f)).run Try.prog w = .ok () w' ∧ Fr (fun k => k = fm) w w' ∧ ∃ es' ck', w'.heap[fm]? = some (.map es' ck') ∧ MapF es' (F ++ [f]) := by
  obtain ⟨r, h1, h2⟩ := find_run w f.at_ es hm.1
  have hv := hm.2 f.at_
  rw [← h2] at hv
  have hF : F.find? (fun g => decide (g.at_ = f.at_)) = none := by
    rw [List.find?_eq_none]
    intro x hx hxk
    have : F.any (fun g => decide (g.at_ = f.at_)) = true := List.any_eq_true.2 ⟨x, hx, hxk⟩
    rw [hn] at this
    cases this
  have hr : r = none := by
    cases r with
    | none => rfl
    | some r => rw [hF] at hv; simp at hv
  subst hr
  refine ⟨_, by simp [Instr.mapUpdate, run_underlying undK, MapKept.run_getObj_map h, check_int, h1, MapKept.run_setObj_map _ h, Result.andThen]; rfl, ?_, es.push { key := .int .i64 f.at_, val := encF f, born := ck }, ck + 1, ?_, ?_⟩
  · exact ⟨rfl, rfl, rfl, by simp, fun k _ hk => by show (w.heap.setIfInBounds fm _)[k]? = _; rw [Array.getElem?_setIfInBounds_ne (Ne.symm hk)]⟩
  · have hl := (Array.getElem?_eq_some_iff.1 h).1
    show (w.heap.setIfInBounds fm _)[fm]? = _
    rw [Array.getElem?_setIfInBounds_self_of_lt hl]
  · constructor
    · intro e he
      rw [Array.toList_push, List.mem_append] at he
      rcases he with he | he
      · exact hm.1 e he
      · rw [List.mem_singleton] at he
        subst he
        exact ⟨_, rfl⟩
    · intro k
      rw [Array.toList_push, List.find?_append, List.find?_append]
      have hk := hm.2 k
      cases hL : es.toList.find? (keyIs k) with
      | some e =>
        rw [hL] at hk
        cases hF2 : F.find? (fun f => decide (f.at_ = k)) with
        | none => rw [hF2] at hk; simp at hk
        | some g => rw [hF2] at hk; simpa using hk
      | none =>
        rw [hL] at hk
        cases hF2 : F.find? (fun f => decide (f.at_ = k)) with
        | some g => rw [hF2] at hk; simp at hk
        | none =>
          by_cases hkf : f.at_ = k
          · simp [keyIs, hkf]
          · simp [keyIs, hkf]
end Go.Proofs.Ytpolofolibabiaa.Bs
