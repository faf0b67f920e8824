/-
  Package rate: a subscription written into its place.
  No conditions.
-/
import Derived.Test.YtfdfnmlbmijdjaaRateK
namespace Go.Proofs.Ytfdfnmlbmijdjaa.Rt
open Go.RowKit Go.Lib Go.Proofs.YtfdfnmlbmijdjaaW.PrintWords Go.Proofs.YtfdfnmlbmijdjaaW.PrintLast Go.Proofs.YtfdfnmlbmijdjaaW.PrintMore
set_option linter.unusedVariables false
set_option linter.unusedSimpArgs false
theorem flat_split (E : List Ent) (p : Nat) (hp : p < E.length) : flat E = flat (E.take p) ++ enc E[p]! ++ flat (E.drop (p + 1)) := by
  have h1 : E = E.take p ++ E[p]! :: E.drop (p + 1) := by
    rw [getElem!_pos E p hp]
    simp
  have h2 : flat (E.take p ++ E[p]! :: E.drop (p + 1)) = flat (E.take p) ++ enc E[p]! ++ flat (E.drop (p + 1)) := by
    rw [flat_app]
    simp [flat]
  rw [← h2, ← h1]
def putSub (x : Ent) (a b p q : Int) : Ent := ⟨x.c, x.s, a, b, p, q, x.d⟩
theorem flat_put (E : List Ent) (i : Nat) (hi : i < E.length) (a b p q : Int) : flat (E.set i (putSub E[i]! a b p q)) = (flat E).take (i * 7 + 2) ++ [.int .i64 a, .int .i64 b, .int .i64 p, .int .i64 q] ++ (flat E).drop (i * 7 + 6) := by
  have hl : (flat (E.take i)).length = i * 7 := by rw [flat_len, List.length_take]; omega
  have hset : flat (E.set i (putSub E[i]! a b p q)) = flat (E.take i) ++ enc (putSub E[i]! a b p q) ++ flat (E.drop (i + 1)) := by
    rw [List.set_eq_take_append_cons_drop, if_pos hi, flat_app]
    simp [flat]
  rw [hset, flat_split E i hi]
  generalize E[i]! = x
  generalize flat (E.take i) = L at *
  generalize flat (E.drop (i + 1)) = M at *
  rw [List.append_assoc L (enc x) M, ← hl, List.take_length_add_append, List.drop_length_add_append]
  obtain ⟨x1, x2, x3, x4, x5, x6, x7⟩ := x
  simp [enc, putSub]
theorem take_lay (l s : List Value) (o m : Nat) (h1 : o + s.length ≤ m) (h2 : m ≤ l.length) : (l.take o ++ s ++ l.drop (o + s.length)).take m = (l.take m).take o ++ s ++ (l.take m).drop (o + s.length) := by
  have hl : (l.take o ++ s).length = o + s.length := by rw [List.length_append, List.length_take]; omega
  rw [List.take_append, List.take_of_length_le (by omega), hl, List.take_take, Nat.min_eq_left (by omega), List.drop_take]
theorem Tab.put {base : Nat} {w : World} {g b n c : Nat} {E : List Ent} (h : Tab base w g (.slice (some ⟨b, 0, none⟩) n c) E) (i : Nat) (hi : i < E.length) (x y p q : Int) (ht29 : (Try.prog.info? 29).map (·.size) = some 4) : ∃ w', (Instr.storeAt 29 (.pointer (some ⟨b, i * 7 + 2, none⟩)) (.agg #[.int .i64 x, .int .i64 y, .int .i64 p, .int .i64 q])).run Try.prog w = .ok () w' ∧ Tab base w' g (.slice (some ⟨b, 0, none⟩) n c) (E.set i (putSub E[i]! x y p q)) ∧ Moved w w' g (some b) := by
  have hne := h.ne
  have hgb : g ≠ b := fun e => hne (by rw [e]; rfl)
  rcases h.2.2 with ⟨hv, _⟩ | ⟨b', cap, cur, hv, hbb, hh, hnc, hcm, hcs, htk⟩
  · cases hv
  injection hv with ha hn hc
  injection ha with ha
  injection ha with hb
  subst hb hn hc
  obtain ⟨i9, hi9, hs9⟩ := Option.map_eq_some_iff.1 ht29
  have hst := run_storeCells_at Try.prog b (i * 7 + 2) 77 [.int .i64 x, .int .i64 y, .int .i64 p, .int .i64 q] 0 cur w hh (by rw [hcs]; simp; omega) (by intro u hu; simp at hu; rcases hu with h | h | h | h <;> subst h <;> rfl)
  simp only [Nat.add_zero] at hst
  refine ⟨_, by simp [Instr.storeAt, Instr.sureAddr, storeVar, sizeOf, typeInfo, hi9, hs9, Value.cells]; exact hst, ⟨?_, ?_⟩, ?_⟩
  · exact (setRow_other w b g _ hgb).trans h.1
  · have hls : (E.set i (putSub E[i]! x y p q)).length = E.length := List.length_set
    refine ⟨by rw [flat_len], .inr ⟨b, _, _, by rw [hls], hbb, setRow_heap w b cur _ 77 (0, 0) hh, by rw [hls]; exact hnc, hcm, ?_, ?_⟩⟩
    · simp only [List.size_toArray, List.length_append, List.length_take, List.length_drop, Array.length_toList, List.length_cons, List.length_nil, hcs]
      omega
    · have h1 : cur.toList.length = c * 7 := by simpa using hcs
      have hlen7 : E.length * 7 ≤ cur.toList.length := by rw [h1]; exact Nat.mul_le_mul_right 7 hnc
      rw [hls, flat_put E i hi, ← htk]
      exact take_lay cur.toList _ (i * 7 + 2) _ (by simp only [List.length_cons, List.length_nil]; omega) hlen7
  · refine ⟨rfl, rfl, rfl, by simp [World.setRow], fun k hk hkg hkb => setRow_other w b k _ (fun e => hkb (by rw [e]))⟩
end Go.Proofs.Ytfdfnmlbmijdjaa.Rt
