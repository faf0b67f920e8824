/-
  The pure law of DrvSets: a wish to any driver.
  No conditions.
-/
import Derived.Test.YtnlmbejkemkkoaaSpecDrvSets
namespace Go.Proofs.Ytnlmbejkemkkoaa.Pure
open Go.RowKit Go.Proofs.Ytnlmbejkemkkoaa Go.Proofs.Ytnlmbejkemkkoaa.PDrvSets Go.Proofs.YtnlmbejkemkkoaaW.PrintWords Go.Proofs.YtnlmbejkemkkoaaW.PrintLast Go.Proofs.YtnlmbejkemkkoaaW.PrintMore
theorem w64 {x : Int} (h : -9223372036854775808 ≤ x) (h2 : x < 9223372036854775808) : wrap64 x = x := by
  unfold wrap64
  omega
theorem w64s (n : Nat) (h : n < 9223372036854775807) : wrap64 ((n : Int) + 1) = ((n + 1 : Nat) : Int) := by
  rw [w64 (by omega) (by omega)]
  omega
theorem good_no {a i b c e l q : Int} (h : ¬ (0 ≤ a ∧ a ≤ 127 ∧ 0 ≤ i ∧ i ≤ 255 ∧ 1 ≤ b ∧ b ≤ 250 ∧ 0 ≤ c ∧ c ≤ 8 ∧ 0 ≤ e ∧ e < 3 ∧ 0 ≤ q ∧ q ≤ 1099511627776 ∧ (c = 5 → 1 ≤ l ∧ l ≤ 16) ∧ (c ≠ 5 → l = 0))) : some false = some (Dr.goodD a i b c e l q) := by
  unfold Dr.goodD
  rw [decide_eq_false h]
theorem may_good (a i : Int) (p : Bool) (b c e : Int) (t : Bool) (l q : Int) (k : Nat) : gimbalref9_May.f (k + 2) a i p b c e t l q = some (Dr.goodD a i b c e l q) := by
  unfold gimbalref9_May.f
  simp only [gimbalref9_May.j0, gimbalref9_May.j1, if_true, decide_eq_true_eq]
  by_cases h0 : a < 0
  · rw [if_pos h0]; exact good_no (by omega)
  rw [if_neg h0]
  by_cases h1 : a > 127
  · rw [if_pos h1]; exact good_no (by omega)
  rw [if_neg h1]
  by_cases h2 : i < 0
  · rw [if_pos h2]; exact good_no (by omega)
  rw [if_neg h2]
  by_cases h3 : i > 255
  · rw [if_pos h3]; exact good_no (by omega)
  rw [if_neg h3]
  by_cases h4 : b < 1
  · rw [if_pos h4]; exact good_no (by omega)
  rw [if_neg h4]
  by_cases h5 : b > 250
  · rw [if_pos h5]; exact good_no (by omega)
  rw [if_neg h5]
  by_cases h6 : c < 0
  · rw [if_pos h6]; exact good_no (by omega)
  rw [if_neg h6]
  by_cases h7 : c > 8
  · rw [if_pos h7]; exact good_no (by omega)
  rw [if_neg h7]
  by_cases h8 : e < 0
  · rw [if_pos h8]; exact good_no (by omega)
  rw [if_neg h8]
  by_cases h9 : e ≥ 3
  · rw [if_pos h9]; exact good_no (by omega)
  rw [if_neg h9]
  by_cases h10 : q < 0
  · rw [if_pos h10]; exact good_no (by omega)
  rw [if_neg h10]
  by_cases h11 : q > 1099511627776
  · rw [if_pos h11]; exact good_no (by omega)
  rw [if_neg h11]
  by_cases hc : c = 5
  · rw [if_pos hc]
    by_cases h1 : l ≥ 1
    · rw [if_pos h1]
      unfold Dr.goodD
      congr 1
      rw [decide_eq_decide]
      omega
    · rw [if_neg h1]; exact good_no (by omega)
  · rw [if_neg hc]
    unfold Dr.goodD
    congr 1
    rw [Bool.eq_iff_iff, beq_iff_eq, decide_eq_true_iff]
    omega
theorem may_ev (a i : Int) (p : Bool) (b c e : Int) (t : Bool) (l q : Int) : Ev (fun k => gimbalref9_May.f k a i p b c e t l q) (Dr.goodD a i b c e l q) :=
  ⟨2, fun k hk => by
    obtain ⟨m, rfl⟩ : ∃ m, k = m + 2 := ⟨k - 2, by omega⟩
    exact may_good a i p b c e t l q m⟩
theorem wakes_ev : Ev (fun k => gimballaw9_wakes.f k) true := Ev.of (gimballaw9_wakes.mono) (k := 10) (by decide +kernel)
set_option linter.unusedSimpArgs false
theorem drvSet_at (a i : Int) (p : Bool) (b s e : Int) (t : Bool) (l q : Int) (w : Bool) (n : Int) (hg : Dr.goodD a i b s e l q = true) (h1 : 1 ≤ n) (h2 : n ≤ 250) (k : Nat) :
    drv_Set.f (k + 6) a i p b s e t l q w n = some (a, i, w, n, Dr.setS s w (b != n), (if Dr.setS s w (b != n) = s then e else 0), t, (if Dr.setS s w (b != n) = s then l else 0), q, 0) := by
  have hc := Dr.goodD_iff hg
  have hs : s = 0 ∨ s = 1 ∨ s = 2 ∨ s = 3 ∨ s = 4 ∨ s = 5 ∨ s = 6 ∨ s = 7 ∨ s = 8 := by omega
  unfold drv_Set.f drv_Good.f
  rw [Option.bind_some, hg, if_pos rfl, if_neg (by omega), decide_eq_false (by omega)]
  clear hc hg
  have hb : (n != b) = (b != n) := by rw [bne_comm]
  by_cases hn : b = n
  · have hb1 : (b != n) = false := by rw [hn]; exact bne_self_eq_false _
    rw [hb1]
    rw [hb1] at hb
    rcases hs with rfl | rfl | rfl | rfl | rfl | rfl | rfl | rfl | rfl <;> cases w <;> simp [drv_Set.j0, drv_Set.j1, drv_Set.j2, drv_Set.j3, drv_Set.j4, Dr.setS, hb]
  · have hb1 : (b != n) = true := by simpa using hn
    rw [hb1]
    rw [hb1] at hb
    rcases hs with rfl | rfl | rfl | rfl | rfl | rfl | rfl | rfl | rfl <;> cases w <;> simp [drv_Set.j0, drv_Set.j1, drv_Set.j2, drv_Set.j3, drv_Set.j4, Dr.setS, hb]
theorem drvSet_ev (a i : Int) (p : Bool) (b s e : Int) (t : Bool) (l q : Int) (w : Bool) (n : Int) (hg : Dr.goodD a i b s e l q = true) (h1 : 1 ≤ n) (h2 : n ≤ 250) :
    Ev (fun k => drv_Set.f k a i p b s e t l q w n) (a, i, w, n, Dr.setS s w (b != n), (if Dr.setS s w (b != n) = s then e else 0), t, (if Dr.setS s w (b != n) = s then l else 0), q, 0) :=
  ⟨6, fun k hk => by
    obtain ⟨m, rfl⟩ : ∃ m, k = m + 6 := ⟨k - 6, by omega⟩
    exact drvSet_at a i p b s e t l q w n hg h1 h2 m⟩
theorem drvSet_no (a i : Int) (p : Bool) (b s e : Int) (t : Bool) (l q : Int) (w : Bool) (n : Int) (hg : ¬ (Dr.goodD a i b s e l q = true ∧ 1 ≤ n ∧ n ≤ 250)) :
    Ev (fun k => drv_Set.f k a i p b s e t l q w n) (0, 0, false, 0, 0, 0, false, 0, 0, 1) := by
  refine ⟨6, fun k hk => ?_⟩
  obtain ⟨m, rfl⟩ : ∃ m, k = m + 6 := ⟨k - 6, by omega⟩
  show drv_Set.f (m + 6) a i p b s e t l q w n = _
  unfold drv_Set.f drv_Good.f
  rw [Option.bind_some]
  by_cases h : Dr.goodD a i b s e l q = true
  · rw [if_pos h]
    by_cases h1 : n < 1
    · rw [if_pos h1]
      simp only [drv_Set.j0, if_true]
    · rw [if_neg h1, decide_eq_true (show n > 250 from Int.not_le.1 (fun h3 => hg ⟨h, by omega, h3⟩))]
      simp only [drv_Set.j0, if_true]
  · rw [if_neg h]
    simp only [drv_Set.j0, if_true]
theorem setS_again (s : Int) (w o : Bool) : Dr.setS (Dr.setS s w o) w false = Dr.setS s w o := by
  unfold Dr.setS
  cases w <;> simp only [Bool.false_eq_true, if_true, if_false, false_and] <;> (repeat' split) <;> omega
theorem setS_good (a i : Int) (b s e l q : Int) (w o : Bool) (n : Int) (hg : Dr.goodD a i b s e l q = true) (h1 : 1 ≤ n) (h2 : n ≤ 250) :
    Dr.goodD a i n (Dr.setS s w o) (if Dr.setS s w o = s then e else 0) (if Dr.setS s w o = s then l else 0) q = true := by
  have hc := Dr.goodD_iff hg
  have hs : Dr.setS s w o = s ∨ (0 ≤ Dr.setS s w o ∧ Dr.setS s w o ≤ 8 ∧ Dr.setS s w o ≠ 5) := by
    unfold Dr.setS
    cases w <;> simp only [Bool.false_eq_true, if_true, if_false] <;> (repeat' split) <;> omega
  unfold Dr.goodD
  rw [decide_eq_true_iff]
  by_cases h : Dr.setS s w o = s
  · rw [if_pos h, if_pos h, h]
    omega
  · rw [if_neg h, if_neg h]
    omega
theorem same9 (a b c d e f g : Int) (p q : Bool) : (!(a == a) || (!(b == b) || (!(p == p) || (!(c == c) || (!(d == d) || (!(e == e) || (!(q == q) || (!(f == f) || (!(g == g)))))))))) = false := by simp
theorem main_loop (l : List S29) (_hl : l.length ≤ 9223372036854775807) (d : Nat) : ∀ i : Nat, i + d = l.length → Ev (fun k => gimballaw9_DrvSets.l0 k l (i : Int)) true := by
  induction d with
  | zero =>
    intro i hi
    refine Ev.step (f := fun k => gimballaw9_DrvSets.j1 k l i false) (fun k => ?_) (Ev.step (f := fun k => gimballaw9_wakes.f k) (fun k => ?_) wakes_ev)
    · simp only [gimballaw9_DrvSets.l0]
      rw [if_neg (by omega)]
    · simp only [gimballaw9_DrvSets.j1]
      rw [if_neg (by simp)]
      cases gimballaw9_wakes.f k <;> rfl
  | succ d ih =>
    intro i hi
    refine Ev.step (f := fun k => gimballaw9_DrvSets.j1 k l i (decide ((i : Int) < 30))) (fun k => ?_) ?_
    · simp only [gimballaw9_DrvSets.l0]
      rw [if_pos (by omega)]
    by_cases h20 : (i : Int) < 30
    · obtain ⟨x, hx⟩ : ∃ x, x = rd_T29 l i := ⟨_, rfl⟩
      have hnext := ih (i + 1) (by omega)
      rw [← w64s i (by omega)] at hnext
      rw [decide_eq_true h20]
      obtain ⟨K3, h3⟩ := hnext
      have hm := may_ev x.f0.f0 x.f0.f1 x.f0.f2 x.f0.f3 x.f0.f4 x.f0.f5 x.f0.f6 x.f0.f7 x.f0.f8
      by_cases hg : Dr.goodD x.f0.f0 x.f0.f1 x.f0.f3 x.f0.f4 x.f0.f5 x.f0.f7 x.f0.f8 = true ∧ 1 ≤ x.f2 ∧ x.f2 ≤ 250
      · obtain ⟨hg, hp1, hp2⟩ := hg
        rw [hg] at hm
        obtain ⟨K1, h1⟩ := hm
        obtain ⟨K2, h2⟩ := drvSet_ev x.f0.f0 x.f0.f1 x.f0.f2 x.f0.f3 x.f0.f4 x.f0.f5 x.f0.f6 x.f0.f7 x.f0.f8 x.f1 x.f2 hg hp1 hp2
        obtain ⟨K4, h4⟩ := drvSet_ev x.f0.f0 x.f0.f1 x.f1 x.f2 (Dr.setS x.f0.f4 x.f1 (x.f0.f3 != x.f2)) (if Dr.setS x.f0.f4 x.f1 (x.f0.f3 != x.f2) = x.f0.f4 then x.f0.f5 else 0) x.f0.f6 (if Dr.setS x.f0.f4 x.f1 (x.f0.f3 != x.f2) = x.f0.f4 then x.f0.f7 else 0) x.f0.f8 x.f1 x.f2 (setS_good _ _ _ _ _ _ _ _ _ _ hg hp1 hp2) hp1 hp2
        rw [bne_self_eq_false, setS_again, if_pos rfl, if_pos rfl] at h4
        dsimp only at h1 h2 h3 h4
        refine ⟨K1 + K2 + K3 + K4 + 2, fun k hk => ?_⟩
        obtain ⟨m, rfl⟩ : ∃ m, k = m + 2 := ⟨k - 2, by omega⟩
        simp only [gimballaw9_DrvSets.j1]
        rw [if_pos trivial, if_pos (by omega), if_pos (by omega), ← hx, h2 (m + 1) (by omega), Option.bind_some, h1 (m + 1) (by omega), Option.bind_some, if_pos rfl, if_neg (by omega), decide_eq_false (by omega)]
        simp only [gimballaw9_DrvSets.j2, gimbalref9_Set.f, gimballaw9_num.f, Option.bind_some]
        rw [if_neg (by simp), h4 m (by omega), Option.bind_some]
        simp only [if_true, Option.bind_some]
        rw [same9, if_neg (by simp), if_neg (by simp), bne_self_eq_false, if_neg (by simp), bne_self_eq_false, if_neg (by simp)]
        exact h3 m (by omega)
      · obtain ⟨K2, h2⟩ := drvSet_no x.f0.f0 x.f0.f1 x.f0.f2 x.f0.f3 x.f0.f4 x.f0.f5 x.f0.f6 x.f0.f7 x.f0.f8 x.f1 x.f2 hg
        obtain ⟨K1, h1⟩ := hm
        dsimp only at h1 h2 h3
        refine ⟨K1 + K2 + K3 + 2, fun k hk => ?_⟩
        obtain ⟨m, rfl⟩ : ∃ m, k = m + 2 := ⟨k - 2, by omega⟩
        simp only [gimballaw9_DrvSets.j1]
        rw [if_pos trivial, if_pos (by omega), if_pos (by omega), ← hx, h2 (m + 1) (by omega), Option.bind_some, h1 (m + 1) (by omega), Option.bind_some]
        have fin : ∀ (a0 a1 : Int) (a2 : Bool) (a3 a4 a5 : Int) (a6 : Bool) (a7 a8 : Int) (a9 : Bool) (a10 a11 : Int) (a12 : List Int), gimballaw9_DrvSets.j2 (m + 1) l i 1 true a0 a1 a2 a3 a4 a5 a6 a7 a8 a9 a10 a11 a12 0 0 false 0 0 0 false 0 0 = some true := by
          intros
          simp only [gimballaw9_DrvSets.j2, gimballaw9_num.f, Option.bind_some, if_true]
          rw [if_neg (by simp)]
          exact h3 m (by omega)
        split
        · next hgd =>
          by_cases hlt : x.f2 < 1
          · rw [if_pos hlt]; exact fin _ _ _ _ _ _ _ _ _ _ _ _ _
          · rw [if_neg hlt, decide_eq_true (show x.f2 > 250 from Int.not_le.1 (fun h3 => hg ⟨hgd, by omega, h3⟩))]; exact fin _ _ _ _ _ _ _ _ _ _ _ _ _
        · exact fin _ _ _ _ _ _ _ _ _ _ _ _ _
    · refine Ev.step (f := fun k => gimballaw9_wakes.f k) (fun k => ?_) wakes_ev
      simp only [gimballaw9_DrvSets.j1]
      rw [if_neg (by simpa using h20)]
      cases gimballaw9_wakes.f k <;> rfl
theorem DrvSets : gimballaw9_DrvSets.Pure := by
  intro l ⟨hl, _⟩
  exact (main_loop l (by unfold maxLen at hl; omega) l.length 0 (by omega)).rounds
end Go.Proofs.Ytnlmbejkemkkoaa.Pure
