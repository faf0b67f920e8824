/-
  The pure law of MedianOne: windows of one, of equal samples, and with one far sample among three.
  No conditions.
-/
import Derived.Test.YtbicnidbffibbaaSpecMedianOne
namespace Go.Proofs.Ytbicnidbffibbaa.Pure
open Go.RowKit Go.Proofs.Ytbicnidbffibbaa Go.Proofs.Ytbicnidbffibbaa.PMedianOne Go.Proofs.YtbicnidbffibbaaW.PrintWords Go.Proofs.YtbicnidbffibbaaW.PrintLast Go.Proofs.YtbicnidbffibbaaW.PrintMore
theorem w64 {x : Int} (h : -9223372036854775808 ≤ x) (h2 : x < 9223372036854775808) : wrap64 x = x := by
  unfold wrap64
  omega
theorem w64s (n : Nat) (h : n < 9223372036854775807) : wrap64 ((n : Int) + 1) = ((n + 1 : Nat) : Int) := by
  rw [w64 (by omega) (by omega)]
  omega
theorem gdMay (x y z : Int) : gimbalref3_May.f x y z = some (Md.gd3 x y z) := by
  have h1 : ∀ a, gimbalref1_May.f a = some (Md.gd1 a) := by
    intro a
    unfold gimbalref1_May.f Md.gd1
    by_cases h : a > (-35184372088832)
    · rw [if_pos h]
      congr 1
      rw [decide_eq_decide]
      omega
    · rw [if_neg h]
      congr 1
      symm
      rw [decide_eq_false_iff_not]
      omega
  unfold gimbalref3_May.f Md.gd3
  simp only [h1, Option.bind_some]
  cases Md.gd1 x <;> cases Md.gd1 y <;> simp
theorem fxGood (a : Int) : fx_Good.f a = some (Md.gd1 a) := by
  unfold fx_Good.f Md.gd1
  by_cases h : a > (-35184372088832)
  · rw [if_pos h]
    congr 1
    rw [decide_eq_decide]
    omega
  · rw [if_neg h]
    congr 1
    symm
    rw [decide_eq_false_iff_not]
    omega
theorem fxAll_at (x y z : Int) (k : Nat) : fx_All.f (k + 4) [x, y, z] = some (Md.gd3 x y z) := by
  have e1 : wrap64 (0 + 1) = 1 := by rw [w64 (by decide) (by decide)]; rfl
  have e2 : wrap64 (1 + 1) = 2 := by rw [w64 (by decide) (by decide)]; rfl
  have e3 : wrap64 (2 + 1) = 3 := by rw [w64 (by decide) (by decide)]; rfl
  unfold fx_All.f
  simp only [fx_All.l0, List.length_cons, List.length_nil, fxGood, Option.bind_some]
  simp only [rd, e1, e2, e3]
  unfold Md.gd3
  cases h1 : Md.gd1 x <;> cases h2 : Md.gd1 y <;> cases h3 : Md.gd1 z <;> simp [h1, h2, h3]
theorem vecGood_ev (x y z : Int) : Ev (fun k => vec_Good.f k x y z) (Md.gd3 x y z) :=
  ⟨4, fun k hk => by
    obtain ⟨m, rfl⟩ : ∃ m, k = m + 4 := ⟨k - 4, by omega⟩
    show (fx_All.f (m + 4) [x, y, z]).bind (fun t => some t) = some (Md.gd3 x y z)
    rw [fxAll_at]
    rfl⟩
theorem take_good (l : List S25) (n x y z : Int) (h1 : 1 ≤ n) (h7 : n ≤ 7) (ho : n.tmod 2 ≠ 0) (hl : (l.length : Int) ≤ n) (hg : Md.gd3 x y z = true) (ha : l.any (fun v => !gdS v) = false) (W : List S25)
    (hW : W = (l ++ [(⟨x, y, z⟩ : S25)]).drop ((l.length + 1) - n.toNat)) :
    Ev (fun k => median_Take.f k l n x y z) (W, Md.midOf (W.map S25.f0), Md.midOf (W.map S25.f1), Md.midOf (W.map S25.f2), 0) := by
  have hWl : 0 < W.length ∧ W.length ≤ 7 := by
    rw [hW, List.length_drop, List.length_append, List.length_singleton]
    omega
  have hm : mx 0 (wrap64 (((l ++ [(⟨x, y, z⟩ : S25)]).length : Int) - n)) = (((l.length + 1) - n.toNat : Nat) : Int) := by
    rw [List.length_append, List.length_singleton, w64 (by omega) (by omega)]
    unfold mx
    split <;> omega
  have hj : Ev (fun k => median_Take.j0 k l n false x y z) (W, Md.midOf (W.map S25.f0), Md.midOf (W.map S25.f1), Md.midOf (W.map S25.f2), 0) := by
    refine Ev.step (f := fun _ => some _) (fun k => ?_) (Ev.now _)
    simp only [median_Take.j0, api_Vec_20.f]
    rw [if_neg (by simp), if_pos (by omega), Option.bind_some, Option.bind_some, if_pos (by simp; omega), Option.bind_some, hm, if_pos (by omega), if_pos (by rw [List.length_append, List.length_singleton]; omega), Int.toNat_natCast, ← hW, Option.bind_some]
    unfold median_middle_0.f median_middle_1.f median_middle_2.f
    simp only [if_pos hWl.1, if_pos hWl.2, Option.bind_some]
  refine Ev.congr (f := fun k => (vec_Good.f k x y z).bind fun t => (if t = true then ((slices_ContainsFunc_1.f l).bind fun t115 => (median_Take.j0 k l n t115 x y z)) else (median_Take.j0 k l n true x y z))) (fun k => ?_) ?_
  · unfold median_Take.f
    rw [if_neg (by omega), if_neg (by omega), if_neg ho, if_neg (by omega)]
  · refine Ev.bind (vecGood_ev x y z) ?_
    simp only [hg, if_true, slices_ContainsFunc_1.f, ha, Option.bind_some]
    exact hj
theorem midRep (x : Int) (n : Nat) : Md.midOf (List.replicate (n + 1) x) = x := by
  refine Md.midOf_eq (by simp) ?_ ?_
  · rw [List.countP_eq_zero.2 (fun a ha => by rw [List.eq_of_mem_replicate ha]; simp)]
    omega
  · rw [List.countP_eq_length.2 (fun a ha => by rw [List.eq_of_mem_replicate ha]; simp), List.length_replicate]
    omega
theorem mid3 (x f : Int) : Md.midOf [x, f, x] = x := by
  refine Md.midOf_eq (by simp) ?_ ?_
  · simp only [List.countP_cons, List.countP_nil, List.length_cons, List.length_nil]
    simp only [decide_eq_true_eq]
    rw [if_neg (by omega)]
    split <;> omega
  · simp only [List.countP_cons, List.countP_nil, List.length_cons, List.length_nil]
    simp only [decide_eq_true_eq]
    rw [if_pos (by omega)]
    split <;> omega
theorem mid3' (x f : Int) : Md.midOf [f, x, x] = x := by
  refine Md.midOf_eq (by simp) ?_ ?_
  · simp only [List.countP_cons, List.countP_nil, List.length_cons, List.length_nil]
    simp only [decide_eq_true_eq]
    rw [if_neg (by omega)]
    split <;> omega
  · simp only [List.countP_cons, List.countP_nil, List.length_cons, List.length_nil]
    simp only [decide_eq_true_eq]
    rw [if_pos (by omega)]
    split <;> omega
theorem far_ok : gdS (⟨35184372088831, (-35184372088831), 35184372088831⟩ : S25) = true := by decide
theorem wakes_ev : Ev (fun k => gimballaw13_wakes.f k) true := Ev.of (gimballaw13_wakes.mono) (k := 10) (by decide +kernel)
theorem eqVecs_one (v : S25) : Ev (fun k => gimbalref0_EqVecs.f k [v] [v]) true :=
  ⟨2, fun k hk => by
    obtain ⟨m, rfl⟩ : ∃ m, k = m + 2 := ⟨k - 2, by omega⟩
    have e1 : wrap64 1 = 1 := by rw [w64 (by decide) (by decide)]
    unfold gimbalref0_EqVecs.f
    simp [gimbalref0_EqVecs.l0, rd_T25, e1]⟩
theorem one_loop (l : List S27) (_hl : l.length ≤ 9223372036854775807) (d : Nat) : ∀ i : Nat, i + d = l.length → Ev (fun k => gimballaw13_MedianOne.l0 k l (i : Int)) true := by
  induction d with
  | zero =>
    intro i hi
    refine Ev.step (f := fun k => gimballaw13_MedianOne.j1 k l i false) (fun k => ?_) (Ev.step (f := fun k => gimballaw13_wakes.f k) (fun k => ?_) wakes_ev)
    · simp only [gimballaw13_MedianOne.l0]
      rw [if_neg (by omega)]
    · simp only [gimballaw13_MedianOne.j1]
      rw [if_neg (by simp)]
      cases gimballaw13_wakes.f k <;> rfl
  | succ d ih =>
    intro i hi
    refine Ev.step (f := fun k => gimballaw13_MedianOne.j1 k l i (decide ((i : Int) < 20))) (fun k => ?_) ?_
    · simp only [gimballaw13_MedianOne.l0]
      rw [if_pos (by omega)]
    by_cases h20 : (i : Int) < 20
    · have hnext := ih (i + 1) (by omega)
      rw [← w64s i (by omega)] at hnext
      obtain ⟨v, hv⟩ : ∃ v, v = (rd_T27 l (i : Int)).f2 := ⟨_, rfl⟩
      obtain ⟨x, y, z⟩ := v
      by_cases hg : Md.gd3 x y z = true
      · have hgs : gdS (⟨x, y, z⟩ : S25) = true := hg
        obtain ⟨K1, h1⟩ := take_good [] 1 x y z (by omega) (by omega) (by decide) (by simp) hg rfl [⟨x, y, z⟩] rfl
        obtain ⟨K2, h2⟩ := take_good [⟨x, y, z⟩, ⟨x, y, z⟩, ⟨x, y, z⟩, ⟨x, y, z⟩] 5 x y z (by omega) (by omega) (by decide) (by simp) hg (by simp [hgs]) [⟨x, y, z⟩, ⟨x, y, z⟩, ⟨x, y, z⟩, ⟨x, y, z⟩, ⟨x, y, z⟩] rfl
        obtain ⟨K3, h3⟩ := take_good [⟨x, y, z⟩, ⟨35184372088831, (-35184372088831), 35184372088831⟩] 3 x y z (by omega) (by omega) (by decide) (by simp) hg (by simp [hgs, far_ok]) [⟨x, y, z⟩, ⟨35184372088831, (-35184372088831), 35184372088831⟩, ⟨x, y, z⟩] rfl
        obtain ⟨K4, h4⟩ := take_good [⟨35184372088831, (-35184372088831), 35184372088831⟩, ⟨x, y, z⟩] 3 x y z (by omega) (by omega) (by decide) (by simp) hg (by simp [hgs, far_ok]) [⟨35184372088831, (-35184372088831), 35184372088831⟩, ⟨x, y, z⟩, ⟨x, y, z⟩] rfl
        obtain ⟨K5, h5⟩ := eqVecs_one ⟨x, y, z⟩
        obtain ⟨K6, h6⟩ := hnext
        have hr1 := fun a : Int => midRep a 0
        have hr5 := fun a : Int => midRep a 4
        simp only [List.replicate] at hr1 hr5
        simp only [List.map_cons, List.map_nil, hr1, hr5, mid3, mid3'] at h1 h2 h3 h4
        dsimp only at h5 h6
        refine ⟨K1 + K2 + K3 + K4 + K5 + K6 + 3, fun k hk => ?_⟩
        obtain ⟨m, rfl⟩ : ∃ m, k = m + 3 := ⟨k - 3, by omega⟩
        simp only [gimballaw13_MedianOne.j1]
        rw [if_pos (by simpa using h20), if_pos (by omega), if_pos (by omega), ← hv]
        simp only [gdMay, hg, Option.bind_some, if_true]
        rw [h1 (m + 2) (by omega)]
        simp only [gimballaw13_num.f, Option.bind_some, if_true, beq_self_eq_true, Bool.not_true, Bool.or_false, Bool.false_eq_true, if_false]
        rw [h5 (m + 2) (by omega)]
        simp only [Option.bind_some, Bool.not_true, gimballaw13_MedianOne.j2, Bool.false_eq_true, if_false]
        rw [h2 (m + 1) (by omega)]
        simp only [gimballaw13_num.f, Option.bind_some, if_true, beq_self_eq_true, Bool.not_true, Bool.or_false, Bool.false_eq_true, if_false, gimballaw13_MedianOne.j3]
        rw [h3 m (by omega), Option.bind_some, h4 m (by omega)]
        simp only [Option.bind_some, if_true, beq_self_eq_true, Bool.not_true, Bool.or_false, Bool.false_eq_true, if_false]
        exact h6 m (by omega)
      · refine Ev.step (fun k => ?_) hnext
        simp only [gimballaw13_MedianOne.j1]
        rw [if_pos (by simpa using h20), if_pos (by omega), if_pos (by omega), ← hv]
        simp only [gdMay, Option.bind_some]
        rw [if_neg hg]
    · refine Ev.step (f := fun k => gimballaw13_wakes.f k) (fun k => ?_) wakes_ev
      simp only [gimballaw13_MedianOne.j1]
      rw [if_neg (by simpa using h20)]
      cases gimballaw13_wakes.f k <;> rfl
theorem MedianOne : gimballaw13_MedianOne.Pure := by
  intro l ⟨hl, _⟩
  exact (one_loop l (by unfold maxLen at hl; omega) l.length 0 (by omega)).rounds
end Go.Proofs.Ytbicnidbffibbaa.Pure
