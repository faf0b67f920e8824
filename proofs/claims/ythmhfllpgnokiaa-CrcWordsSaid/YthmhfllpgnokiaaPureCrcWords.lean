/-
  The pure law of CrcWords: the sum of words is that of their bytes.
  No conditions.
-/
import Derived.Test.YthmhfllpgnokiaaSpecCrcWords
import Derived.Test.YthmhfllpgnokiaaCrcM
import Derived.Test.YthmhfllpgnokiaaOpens
namespace Go.Proofs.Ythmhfllpgnokiaa.Pure
open Go.RowKit Go.Proofs.Ythmhfllpgnokiaa.Op Go.Proofs.Ythmhfllpgnokiaa.PCrcWords Go.Proofs.YthmhfllpgnokiaaW.PrintWords Go.Proofs.YthmhfllpgnokiaaW.PrintLast Go.Proofs.YthmhfllpgnokiaaW.PrintMore
theorem w64 {x : Int} (h : -9223372036854775808 ≤ x) (h2 : x < 9223372036854775808) : wrap64 x = x := by
  unfold wrap64
  omega
/-- A word's bytes, the highest first. -/
def wb (x : Int) : List Int := [x / 16777216 % 256, x / 65536 % 256, x / 256 % 256, x % 256]
def wbs (l : List Int) : Nat → List Int
  | 0 => []
  | k + 1 => wbs l k ++ wb (rd l k)
theorem wbs_length (l : List Int) (k : Nat) : (wbs l k).length = 4 * k := by
  induction k with
  | zero => rfl
  | succ k ih => simp [wbs, wb, ih]; omega
theorem wbs_bytes (l : List Int) (k : Nat) : bytes (wbs l k) := by
  induction k with
  | zero => intro y hy; simp [wbs] at hy
  | succ k ih =>
    intro y hy
    simp only [wbs, wb, List.mem_append, List.mem_cons, List.not_mem_nil, or_false] at hy
    rcases hy with h | h | h | h | h
    · exact ih y h
    all_goals (subst h; omega)
theorem sumB_pre (a b : List Int) (k : Nat) (hk : k ≤ a.length) : sumB (a ++ b) k = sumB a k := by
  induction k with
  | zero => rfl
  | succ k ih =>
    show stepOf (sumB (a ++ b) k) (rd (a ++ b) k) = stepOf (sumB a k) (rd a k)
    rw [ih (by omega)]
    unfold rd
    rw [Int.toNat_natCast, List.getD_eq_getElem?_getD, List.getD_eq_getElem?_getD, List.getElem?_append_left (by omega)]
theorem rd_app (a b : List Int) (j : Nat) : rd (a ++ b) ((a.length + j : Nat) : Int) = rd b j := by
  unfold rd
  rw [Int.toNat_natCast, Int.toNat_natCast, List.getD_eq_getElem?_getD, List.getD_eq_getElem?_getD, List.getElem?_append_right (by omega), Nat.add_sub_cancel_left]
theorem sumW_B (l : List Int) (k : Nat) : sumW l k = sumB (wbs l k) (4 * k) := by
  induction k with
  | zero => rfl
  | succ k ih =>
    have hl := wbs_length l k
    show inn4 (sumW l k) (rd l k) 0 = _
    rw [show 4 * (k + 1) = 4 * k + 1 + 1 + 1 + 1 by omega]
    show _ = stepOf (stepOf (stepOf (stepOf (sumB (wbs l (k + 1)) (4 * k)) (rd (wbs l (k + 1)) ((4 * k : Nat) : Int))) (rd (wbs l (k + 1)) ((4 * k + 1 : Nat) : Int))) (rd (wbs l (k + 1)) ((4 * k + 1 + 1 : Nat) : Int))) (rd (wbs l (k + 1)) ((4 * k + 1 + 1 + 1 : Nat) : Int))
    have e0 := rd_app (wbs l k) (wb (rd l k)) 0
    have e1 := rd_app (wbs l k) (wb (rd l k)) 1
    have e2 := rd_app (wbs l k) (wb (rd l k)) 2
    have e3 := rd_app (wbs l k) (wb (rd l k)) 3
    rw [hl] at e0 e1 e2 e3
    show _ = stepOf (stepOf (stepOf (stepOf (sumB (wbs l k ++ wb (rd l k)) (4 * k)) (rd (wbs l k ++ wb (rd l k)) ((4 * k : Nat) : Int))) (rd (wbs l k ++ wb (rd l k)) ((4 * k + 1 : Nat) : Int))) (rd (wbs l k ++ wb (rd l k)) ((4 * k + 1 + 1 : Nat) : Int))) (rd (wbs l k ++ wb (rd l k)) ((4 * k + 1 + 1 + 1 : Nat) : Int))
    rw [sumB_pre _ _ _ (by omega), ← ih]
    rw [show ((4 * k : Nat) : Int) = ((4 * k + 0 : Nat) : Int) from rfl, e0, e1, show 4 * k + 1 + 1 = 4 * k + 2 from rfl, e2, show 4 * k + 2 + 1 = 4 * k + 3 from rfl, e3]
    rfl
theorem words_loop (l : List S27) (i : Int) (x : List Int) (hl : x.length ≤ 1000) (next : Ev (fun k => gimballaw22_CrcWords.l0 k l (wrap64 (i + 1))) true) (d : Nat) : ∀ j : Nat, j + d = x.length → Ev (fun k => gimballaw22_CrcWords.l1 k l i x (wbs x j) (j : Int)) true := by
  induction d with
  | zero =>
    intro j hj
    obtain rfl : j = x.length := by omega
    refine Ev.step (fun k => ?_) next
    simp only [gimballaw22_CrcWords.l1, crc_Words.f, crc_Sum.f, Option.bind_some]
    have hwl := wbs_length x x.length
    rw [if_neg (by omega), if_pos (by rw [hwl]; exact sumW_B x x.length), if_pos (by rfl), if_pos (by rfl)]
  | succ d ih =>
    intro j hj
    have hwl := wbs_length x j
    refine Ev.step (fun k => ?_) (ih (j + 1) (by omega))
    simp only [gimballaw22_CrcWords.l1, Option.bind_some]
    rw [if_pos (by omega), if_pos (by omega), if_pos (by rw [hwl]; simp; omega), w64 (by omega) (by omega)]
    rfl
theorem main_loop (l : List S27) (d : Nat) : ∀ i : Nat, i + d = l.length → Ev (fun k => gimballaw22_CrcWords.l0 k l (i : Int)) true := by
  induction d with
  | zero =>
    intro i hi
    refine Ev.step (f := fun k => gimballaw22_CrcWords.j1 k l i false) (fun k => ?_) (Ev.step (f := fun _ => some true) (fun k => ?_) (Ev.now _))
    · simp only [gimballaw22_CrcWords.l0]
      rw [if_neg (by omega)]
    · simp only [gimballaw22_CrcWords.j1, gimballaw22_wakes.f]
      rfl
  | succ d ih =>
    intro i hi
    refine Ev.step (f := fun k => gimballaw22_CrcWords.j1 k l i (decide ((i : Int) < 20))) (fun k => ?_) ?_
    · simp only [gimballaw22_CrcWords.l0]
      rw [if_pos (by omega)]
    by_cases h20 : (i : Int) < 20
    · obtain ⟨x, hx⟩ : ∃ x, x = rd_T27 l i := ⟨_, rfl⟩
      by_cases h1 : (x.f1.length : Int) > 1000
      · refine Ev.step (f := fun _ => some true) (fun k => ?_) (Ev.now _)
        simp only [gimballaw22_CrcWords.j1]
        rw [if_pos (decide_eq_true h20), if_pos (by omega), if_pos (by omega), ← hx, if_pos h1]
      · refine Ev.step (fun k => ?_) (words_loop l i x.f1 (by omega) (by rw [w64 (by omega) (by omega)]; exact ih (i + 1) (by omega)) x.f1.length 0 (by omega))
        simp only [gimballaw22_CrcWords.j1]
        rw [if_pos (decide_eq_true h20), if_pos (by omega), if_pos (by omega), ← hx, if_neg h1]
        rfl
    · refine Ev.step (f := fun _ => some true) (fun k => ?_) (Ev.now _)
      simp only [gimballaw22_CrcWords.j1, gimballaw22_wakes.f]
      rw [if_neg (by simpa using h20)]
      rfl
theorem CrcWords : gimballaw22_CrcWords.Pure := by
  intro l _
  exact (main_loop l l.length 0 (by omega)).rounds
end Go.Proofs.Ythmhfllpgnokiaa.Pure
