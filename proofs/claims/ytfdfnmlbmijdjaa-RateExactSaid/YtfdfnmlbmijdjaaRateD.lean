/-
  Walks of package rate: slices.Insert of one entry.
  No conditions.
-/
import Derived.Test.YtfdfnmlbmijdjaaRateA
import Derived.Lib.Hide
import Derived.Deep.RegionHeld3
import Derived.Shelf.RegionOpenPlain
import Derived.Lib.Walk
import Derived.Lib.SliceRun
import Derived.Lib.AppendZeros
import Derived.Lib.AppendZerosOnto
import Derived.Lib.Overlaps
import Derived.Laws.Externs
import Derived.Laws.CopyRow
import Derived.Laws.AppendOwn
import Derived.Laws.NewBlocks
namespace Go.Proofs.Ytfdfnmlbmijdjaa.Rt
open Go.RowKit Go.Lib Go.Proofs.YtfdfnmlbmijdjaaW.PrintWords Go.Proofs.YtfdfnmlbmijdjaaW.PrintLast Go.Proofs.YtfdfnmlbmijdjaaW.PrintMore
set_option linter.unusedVariables false
set_option linter.unusedSimpArgs false
def flat (E : List Ent) : List Value := E.flatMap enc
theorem enc_len (x : Ent) : (enc x).length = 7 := rfl
theorem flat_len (E : List Ent) : (flat E).length = E.length * 7 := by
  induction E with
  | nil => rfl
  | cons x r ih => simp only [flat, List.flatMap_cons, List.length_append, List.length_cons] at *; rw [ih, enc_len]; omega
theorem flat_app (E F : List Ent) : flat (E ++ F) = flat E ++ flat F := List.flatMap_append
theorem flat_take (E : List Ent) (i : Nat) : (flat E).take (i * 7) = flat (E.take i) := by
  by_cases h : i ≤ E.length
  · conv => lhs; rw [← List.take_append_drop i E, flat_app]
    rw [List.take_append_of_le_length (by rw [flat_len, List.length_take]; omega), List.take_of_length_le (by rw [flat_len, List.length_take]; omega)]
  · rw [List.take_of_length_le (by rw [flat_len]; omega), List.take_of_length_le (by omega)]
theorem flat_drop (E : List Ent) (i : Nat) : (flat E).drop (i * 7) = flat (E.drop i) := by
  by_cases h : i ≤ E.length
  · conv => lhs; rw [← List.take_append_drop i E, flat_app]
    rw [List.drop_append_of_le_length (by rw [flat_len, List.length_take]; omega), List.drop_of_length_le (by rw [flat_len, List.length_take]; omega), List.nil_append]
  · rw [List.drop_of_length_le (by rw [flat_len]; omega), List.drop_of_length_le (by omega)]; rfl
theorem flat_one (E : List Ent) : ∀ u ∈ flat E, u.oneCell' = true := by
  intro u hu
  obtain ⟨x, _, hx⟩ := List.mem_flatMap.1 hu
  simp only [enc, List.mem_cons, List.not_mem_nil, or_false] at hx
  rcases hx with h | h | h | h | h | h | h <;> subst h <;> rfl
theorem flat_get (E : List Ent) (j : Nat) (hj : j < E.length) (k : Nat) (u : Value) (hu : (enc E[j]!)[k]? = some u) : (flat E)[j * 7 + k]? = some u := by
  have hk : k < 7 := by have := (List.getElem?_eq_some_iff.1 hu).1; rwa [enc_len] at this
  have h1 : E = E.take j ++ E[j]! :: E.drop (j + 1) := by
    rw [getElem!_pos E j hj]
    simp
  rw [h1, flat_app, List.getElem?_append_right (by rw [flat_len, List.length_take]; omega), flat_len, List.length_take, show j * 7 + k - min j E.length * 7 = k by omega]
  rw [show flat (E[j]! :: E.drop (j + 1)) = enc E[j]! ++ flat (E.drop (j + 1)) from rfl, List.getElem?_append_left (by rw [enc_len]; exact hk)]
  exact hu
theorem info77' : ∃ i, Try.prog.info? 77 = some i ∧ i.zero = some (encV ⟨0, 0, 0, 0, 0, 0, 0⟩) ∧ i.size = 7 ∧ i.bytes = 56 := by
  have h := info77
  cases hq : Try.prog.info? 77 with
  | none => rw [hq] at h; cases h
  | some i =>
    rw [hq] at h
    simp only [Option.map_some, Option.some.injEq, Prod.mk.injEq] at h
    exact ⟨i, rfl, h.1, h.2.1, h.2.2⟩
theorem copy_cells {P : Program} (w : World) (dT sT ty elem : TypeId) (size : Nat) (g o dLen dCap : Nat) (a : Addr) (sLen sCap : Nat) (cur : Array Value) (t : TypeId) (cs : List Value)
    (hu : P.underlying dT = some (.slice elem)) (hs : (P.info? elem).map (·.size) = some size)
    (hg : w.heap[g]? = some (.cells cur t (0, 0))) (hn : cs.length = Nat.min sLen dLen * size)
    (hsrc : ∀ j v, cs[j]? = some v → w.cell? (a.add j) = some v) (hfit : o + cs.length ≤ cur.size) (h1 : ∀ v ∈ cs, v.oneCell' = true) :
    (Builtin.copy_ #[dT, sT] ty #[.slice (some ⟨g, o, none⟩) dLen dCap, .slice (some a) sLen sCap]).run P w =
      .ok (goInt (Nat.min sLen dLen)) (w.setRow g (cur.toList.take o ++ cs ++ cur.toList.drop (o + cs.length)).toArray) := by
  have hl := run_loadCells_list (P := P) w a cs hsrc
  have hst := run_storeCells_at P g o t cs 0 cur w hg (by simpa using hfit) h1
  cases hq : P.info? elem with
  | none => simp [hq] at hs
  | some i =>
    have hi : i.size = size := by simpa [hq] using hs
    simp [Builtin.copy_, run_underlying hu, Builtin.lenOf, Builtin.firstCells, sizeOf, typeInfo, hq, hi, ← hn, hl, hst]
theorem slice_le {w : World} {base e n size m c : Nat} {A : Option Addr} {xs : List Value} (h : w.ownsRow base e size (.slice A m c) n xs) : n ≤ c := by
  rcases h.2 with ⟨h1, h2⟩ | ⟨g, cap, cur, h1, h2, h3, h4, h5, h6⟩
  · omega
  · injection h1 with _ _ hc
    omega
theorem ownB (A : Option Addr) (n c : Nat) : (Value.slice A n c).ownBlock = A.map (·.block) := by cases A <;> rfl
theorem u61 : Try.prog.underlying 61 = some (.slice 77) := by kernel_rfl
theorem cells_of_row {w : World} {vb : Nat} {x : Ent} {t : Nat} (hv : w.heap[vb]? = some (.cells (enc x).toArray t (0, 0))) : ∀ j u, (enc x)[j]? = some u → w.cell? ((⟨vb, 0, none⟩ : Addr).add j) = some u := by
  intro j u hu
  rw [add_plain, cell_of_row w vb j _ _ (0, 0) hv]
  simpa using hu
set_option maxHeartbeats 8000000 in
set_option maxRecDepth 100000 in
theorem insert_end (E : List Ent) (x : Ent) (v : Value) (W : World) (base vb : Nat) (hown : W.ownsRow base 77 7 v E.length (flat E)) (hv : W.heap[vb]? = some (.cells (enc x).toArray 77 (0, 0))) (hbase : base ≤ W.heap.size) (hsz : E.length < 1099511627776) : Calls Try.prog 45 #[v, .int .i64 (E.length : Nat), .slice (some ⟨vb, 0, none⟩) 1 1] W fun e w' => ∃ v', e = .returned v' ∧ w'.ownsRow base 77 7 v' (E.length + 1) (flat (E ++ [x])) ∧ W.grownBy w' v.ownBlock := by
  obtain ⟨i, hi, hz, hs, hb⟩ := info77'
  have hfl : flat (E ++ [x]) = flat E ++ enc x := by rw [flat_app]; simp [flat]
  rw [hfl]
  have hm : E.length + 1 ≤ maxLen := by unfold maxLen; omega
  obtain ⟨A, c, rfl⟩ := own_slice hown
  have hlc : E.length ≤ c := slice_le hown
  rw [ownB]
  have HO := Lib.hid hown
  have HV := Lib.hid (cells_of_row hv)
  obtain ⟨fE, hfE⟩ : ∃ fE, fE = flat E := ⟨_, rfl⟩
  rw [← hfE] at HO ⊢
  obtain ⟨n, hn⟩ : ∃ n, n = E.length := ⟨_, rfl⟩
  rw [← hn] at HO hlc hm hsz ⊢
  clear hown hv hfl hfE hn
  have hin : (n : Int) ≤ (c : Int) := by omega
  go_enter Try.func45, Try.ntmps45
  go_wp2_with (at_builtin; refine wpList_append_own _ rfl _ _ 61 rfl base 77 i _ 7 56 u61 hi hz hs hb rfl (by decide) (.slice A n c) n fE rfl HO.out ⟨vb, 0, none⟩ 1 1 (enc x) rfl rfl HV.out (fun u hu => flat_one [x] u (by simpa [flat] using hu)) hm (by omega) hbase ?_; intro v' w' h1 h2 h3; rw [ownB] at h2; clear h3)
  all_goals (go_ret; exact ⟨v', rfl, h1, h2⟩)
end Go.Proofs.Ytfdfnmlbmijdjaa.Rt
