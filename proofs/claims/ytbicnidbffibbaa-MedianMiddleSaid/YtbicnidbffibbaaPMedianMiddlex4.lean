import Derived.Test.YtbicnidbffibbaaPMedianMiddlex0
import Derived.Test.YtbicnidbffibbaaPMedianMiddlex1
import Derived.Test.YtbicnidbffibbaaPMedianMiddlex2
import Derived.Test.YtbicnidbffibbaaPMedianMiddlex3
namespace Go.Proofs.Ytbicnidbffibbaa.PMedianMiddle
open Go.RowKit Go.Proofs.YtbicnidbffibbaaW.PrintWords Go.Proofs.YtbicnidbffibbaaW.PrintLast Go.Proofs.YtbicnidbffibbaaW.PrintMore
attribute [local go_sem] max2_int min2_int max_two min_two max_three min_three max_four min_four   -- for this text's walks alone
set_option linter.unusedVariables false
set_option linter.unusedSimpArgs false

attribute [local go_sem high] eqA25
/-! ### gimballaw13_MedianMiddle: function 4 -/
mutual
def gimballaw13_MedianMiddle.l0 : Nat → List (S27) → Int → Option (Bool)
  | 0, _, _ => none
  | k + 1, x0, x3 => if x3 < (x0.length : Int) then (gimballaw13_MedianMiddle.j1 k x0 x3 (decide (x3 < 20))) else (gimballaw13_MedianMiddle.j1 k x0 x3 false)
def gimballaw13_MedianMiddle.j1 : Nat → List (S27) → Int → Bool → Option (Bool)
  | 0, _, _, _ => none
  | k + 1, x0, x3, x24 => if x24 = true then (if 0 ≤ x3 then (if x3 < (x0.length : Int) then ((gimballaw13_may.f k ((rd_T27 x0 x3).f0) ((rd_T27 x0 x3).f1) ((rd_T27 x0 x3).f2.f0) ((rd_T27 x0 x3).f2.f1) ((rd_T27 x0 x3).f2.f2)).bind fun t157 => (if t157 = true then (gimballaw13_MedianMiddle.j2 k x0 x3 (decide ((((rd_T27 x0 x3).f0).length : Int) < (wrap64 (((rd_T27 x0 x3).f1) - 1)))) ((rd_T27 x0 x3).f0) ((rd_T27 x0 x3).f1) ((rd_T27 x0 x3).f2.f0) ((rd_T27 x0 x3).f2.f1) ((rd_T27 x0 x3).f2.f2)) else (gimballaw13_MedianMiddle.j2 k x0 x3 true ((rd_T27 x0 x3).f0) ((rd_T27 x0 x3).f1) ((rd_T27 x0 x3).f2.f0) ((rd_T27 x0 x3).f2.f1) ((rd_T27 x0 x3).f2.f2)))) else (none)) else (none)) else ((gimballaw13_wakes.f k).bind fun t154 => (some t154))
def gimballaw13_MedianMiddle.j2 : Nat → List (S27) → Int → Bool → List (S25) → Int → Int → Int → Int → Option (Bool)
  | 0, _, _, _, _, _, _, _, _ => none
  | k + 1, x0, x3, x42, x157000, x157001, x157002, x157003, x157004 => if x42 = true then (gimballaw13_MedianMiddle.l0 k x0 (wrap64 (x3 + 1))) else (if 0 ≤ (wrap64 ((x157000.length : Int) - (wrap64 (x157001 - 1)))) then (if (wrap64 ((x157000.length : Int) - (wrap64 (x157001 - 1)))) ≤ (x157000.length : Int) then ((median_Take.f k (x157000.drop ((wrap64 ((x157000.length : Int) - (wrap64 (x157001 - 1)))) : Int).toNat) x157001 x157002 x157003 x157004).bind fun bt162 => ((gimballaw13_num.f bt162.2.2.2.2).bind fun t170 => (if t170 = 0 then (gimballaw13_MedianMiddle.j3 k x0 x3 bt162.1 ((bt162.1.length : Int) != x157001) x157000 x157001 x157002 x157003 x157004 bt162.2.1 bt162.2.2.1 bt162.2.2.2.1) else (gimballaw13_MedianMiddle.j3 k x0 x3 bt162.1 true x157000 x157001 x157002 x157003 x157004 bt162.2.1 bt162.2.2.1 bt162.2.2.2.1)))) else (none)) else (none))
def gimballaw13_MedianMiddle.j3 : Nat → List (S27) → Int → List (S25) → Bool → List (S25) → Int → Int → Int → Int → Int → Int → Int → Option (Bool)
  | 0, _, _, _, _, _, _, _, _, _, _, _, _ => none
  | k + 1, x0, x3, x5, x71, x157000, x157001, x157002, x157003, x157004, x170000, x170001, x170002 => if x71 = true then (some false) else (gimballaw13_MedianMiddle.l1 k x0 x3 x5 0 0 0 0 x157000 x157001 x157002 x157003 x157004 x170000 x170001 x170002)
def gimballaw13_MedianMiddle.l1 : Nat → List (S27) → Int → List (S25) → Int → Int → Int → Int → List (S25) → Int → Int → Int → Int → Int → Int → Int → Option (Bool)
  | 0, _, _, _, _, _, _, _, _, _, _, _, _, _, _, _ => none
  | k + 1, x0, x3, x5, x8, x9, x10, x11, x157000, x157001, x157002, x157003, x157004, x170000, x170001, x170002 => if x11 < (x5.length : Int) then (if 0 ≤ x11 then (if ((rd_T25 x5 x11).f1) < x170001 then (gimballaw13_MedianMiddle.j5 k x0 x3 x5 (wrap64 (x8 + 1)) x9 x10 x11 x157000 x157001 x157002 x157003 x157004 x170000 x170001 x170002) else (gimballaw13_MedianMiddle.j5 k x0 x3 x5 x8 x9 x10 x11 x157000 x157001 x157002 x157003 x157004 x170000 x170001 x170002)) else (none)) else (if x10 = 0 then (gimballaw13_MedianMiddle.j6 k x0 x3 x5 true x157000 x157001 x157002 x157003 x157004 x170000 x170001 x170002) else (if x8 > (wrap64 (Int.tdiv x157001 2)) then (gimballaw13_MedianMiddle.j6 k x0 x3 x5 true x157000 x157001 x157002 x157003 x157004 x170000 x170001 x170002) else (gimballaw13_MedianMiddle.j6 k x0 x3 x5 (decide (x9 > (wrap64 (Int.tdiv x157001 2)))) x157000 x157001 x157002 x157003 x157004 x170000 x170001 x170002)))
def gimballaw13_MedianMiddle.j5 : Nat → List (S27) → Int → List (S25) → Int → Int → Int → Int → List (S25) → Int → Int → Int → Int → Int → Int → Int → Option (Bool)
  | 0, _, _, _, _, _, _, _, _, _, _, _, _, _, _, _ => none
  | k + 1, x0, x3, x5, x8, x9, x10, x11, x157000, x157001, x157002, x157003, x157004, x170000, x170001, x170002 => if 0 ≤ x11 then (if x11 < (x5.length : Int) then (if ((rd_T25 x5 x11).f1) > x170001 then (if ((rd_T25 x5 x11).f1) = x170001 then (gimballaw13_MedianMiddle.l1 k x0 x3 x5 x8 (wrap64 (x9 + 1)) (wrap64 (x10 + 1)) (wrap64 (x11 + 1)) x157000 x157001 x157002 x157003 x157004 x170000 x170001 x170002) else (gimballaw13_MedianMiddle.l1 k x0 x3 x5 x8 (wrap64 (x9 + 1)) x10 (wrap64 (x11 + 1)) x157000 x157001 x157002 x157003 x157004 x170000 x170001 x170002)) else (if ((rd_T25 x5 x11).f1) = x170001 then (gimballaw13_MedianMiddle.l1 k x0 x3 x5 x8 x9 (wrap64 (x10 + 1)) (wrap64 (x11 + 1)) x157000 x157001 x157002 x157003 x157004 x170000 x170001 x170002) else (gimballaw13_MedianMiddle.l1 k x0 x3 x5 x8 x9 x10 (wrap64 (x11 + 1)) x157000 x157001 x157002 x157003 x157004 x170000 x170001 x170002))) else (none)) else (none)
def gimballaw13_MedianMiddle.j6 : Nat → List (S27) → Int → List (S25) → Bool → List (S25) → Int → Int → Int → Int → Int → Int → Int → Option (Bool)
  | 0, _, _, _, _, _, _, _, _, _, _, _, _ => none
  | k + 1, x0, x3, x5, x123, x157000, x157001, x157002, x157003, x157004, x170000, x170001, x170002 => if x123 = true then (some false) else (gimballaw13_MedianMiddle.l2 k x0 x3 x5 ([] : List (S25)) (wrap64 ((x5.length : Int) - 1)) x157000 x157001 x157002 x157003 x157004 x170000 x170001 x170002)
def gimballaw13_MedianMiddle.l2 : Nat → List (S27) → Int → List (S25) → List (S25) → Int → List (S25) → Int → Int → Int → Int → Int → Int → Int → Option (Bool)
  | 0, _, _, _, _, _, _, _, _, _, _, _, _, _ => none
  | k + 1, x0, x3, x5, x12, x13, x157000, x157001, x157002, x157003, x157004, x170000, x170001, x170002 => if x13 > 0 then (if 0 ≤ x13 then (if x13 < (x5.length : Int) then (if x12.length < 5864062014805 then (gimballaw13_MedianMiddle.l2 k x0 x3 x5 (x12 ++ [(⟨(rd_T25 x5 x13).f0, (rd_T25 x5 x13).f1, (rd_T25 x5 x13).f2⟩ : S25)]) (wrap64 (x13 - 1)) x157000 x157001 x157002 x157003 x157004 x170000 x170001 x170002) else (none)) else (none)) else (none)) else (if 0 < (x5.length : Int) then ((median_Take.f k x12 x157001 ((rd_T25 x5 0).f0) ((rd_T25 x5 0).f1) ((rd_T25 x5 0).f2)).bind fun bt180 => ((gimballaw13_num.f bt180.2.2.2.2).bind fun t188 => (if t188 = 0 then (if (!(bt180.2.1 == x170000) || (!(bt180.2.2.1 == x170001) || (!(bt180.2.2.2.1 == x170002)))) = true then (some false) else (gimballaw13_MedianMiddle.l0 k x0 (wrap64 (x3 + 1)))) else (some false)))) else (none))
end
def gimballaw13_MedianMiddle.f (k : Nat) (l0 : List (S27)) : Option (Bool) := gimballaw13_MedianMiddle.l0 k l0 0
theorem gimballaw13_MedianMiddle.mono_l : ∀ k, (∀ y0 y1, LeO (gimballaw13_MedianMiddle.l0 k y0 y1) (gimballaw13_MedianMiddle.l0 (k + 1) y0 y1)) ∧ (∀ y0 y1 y2, LeO (gimballaw13_MedianMiddle.j1 k y0 y1 y2) (gimballaw13_MedianMiddle.j1 (k + 1) y0 y1 y2)) ∧ (∀ y0 y1 y2 y3 y4 y5 y6 y7, LeO (gimballaw13_MedianMiddle.j2 k y0 y1 y2 y3 y4 y5 y6 y7) (gimballaw13_MedianMiddle.j2 (k + 1) y0 y1 y2 y3 y4 y5 y6 y7)) ∧ (∀ y0 y1 y2 y3 y4 y5 y6 y7 y8 y9 y10 y11, LeO (gimballaw13_MedianMiddle.j3 k y0 y1 y2 y3 y4 y5 y6 y7 y8 y9 y10 y11) (gimballaw13_MedianMiddle.j3 (k + 1) y0 y1 y2 y3 y4 y5 y6 y7 y8 y9 y10 y11)) ∧ (∀ y0 y1 y2 y3 y4 y5 y6 y7 y8 y9 y10 y11 y12 y13 y14, LeO (gimballaw13_MedianMiddle.l1 k y0 y1 y2 y3 y4 y5 y6 y7 y8 y9 y10 y11 y12 y13 y14) (gimballaw13_MedianMiddle.l1 (k + 1) y0 y1 y2 y3 y4 y5 y6 y7 y8 y9 y10 y11 y12 y13 y14)) ∧ (∀ y0 y1 y2 y3 y4 y5 y6 y7 y8 y9 y10 y11 y12 y13 y14, LeO (gimballaw13_MedianMiddle.j5 k y0 y1 y2 y3 y4 y5 y6 y7 y8 y9 y10 y11 y12 y13 y14) (gimballaw13_MedianMiddle.j5 (k + 1) y0 y1 y2 y3 y4 y5 y6 y7 y8 y9 y10 y11 y12 y13 y14)) ∧ (∀ y0 y1 y2 y3 y4 y5 y6 y7 y8 y9 y10 y11, LeO (gimballaw13_MedianMiddle.j6 k y0 y1 y2 y3 y4 y5 y6 y7 y8 y9 y10 y11) (gimballaw13_MedianMiddle.j6 (k + 1) y0 y1 y2 y3 y4 y5 y6 y7 y8 y9 y10 y11)) ∧ (∀ y0 y1 y2 y3 y4 y5 y6 y7 y8 y9 y10 y11 y12, LeO (gimballaw13_MedianMiddle.l2 k y0 y1 y2 y3 y4 y5 y6 y7 y8 y9 y10 y11 y12) (gimballaw13_MedianMiddle.l2 (k + 1) y0 y1 y2 y3 y4 y5 y6 y7 y8 y9 y10 y11 y12))
  | 0 => ⟨fun _ _ r h => by simp [gimballaw13_MedianMiddle.l0] at h, fun _ _ _ r h => by simp [gimballaw13_MedianMiddle.j1] at h, fun _ _ _ _ _ _ _ _ r h => by simp [gimballaw13_MedianMiddle.j2] at h, fun _ _ _ _ _ _ _ _ _ _ _ _ r h => by simp [gimballaw13_MedianMiddle.j3] at h, fun _ _ _ _ _ _ _ _ _ _ _ _ _ _ _ r h => by simp [gimballaw13_MedianMiddle.l1] at h, fun _ _ _ _ _ _ _ _ _ _ _ _ _ _ _ r h => by simp [gimballaw13_MedianMiddle.j5] at h, fun _ _ _ _ _ _ _ _ _ _ _ _ r h => by simp [gimballaw13_MedianMiddle.j6] at h, fun _ _ _ _ _ _ _ _ _ _ _ _ _ r h => by simp [gimballaw13_MedianMiddle.l2] at h⟩
  | k + 1 => by
    obtain ⟨ih0, ih1, ih2, ih3, ih4, ih5, ih6, ih7⟩ := gimballaw13_MedianMiddle.mono_l k
    refine ⟨?_, ?_, ?_, ?_, ?_, ?_, ?_, ?_⟩
    · intro y0 y1
      unfold gimballaw13_MedianMiddle.l0
      repeat' first
      | (with_reducible exact ih0 _ _)
      | (with_reducible exact ih1 _ _ _)
      | (with_reducible exact ih2 _ _ _ _ _ _ _ _)
      | (with_reducible exact ih3 _ _ _ _ _ _ _ _ _ _ _ _)
      | (with_reducible exact ih4 _ _ _ _ _ _ _ _ _ _ _ _ _ _ _)
      | (with_reducible exact ih5 _ _ _ _ _ _ _ _ _ _ _ _ _ _ _)
      | (with_reducible exact ih6 _ _ _ _ _ _ _ _ _ _ _ _)
      | (with_reducible exact ih7 _ _ _ _ _ _ _ _ _ _ _ _ _)
      | (with_reducible exact gimballaw13_may.mono _ _ _ _ _ _)
      | (with_reducible exact gimballaw13_wakes.mono _)
      | (with_reducible exact median_Take.mono _ _ _ _ _ _)
      | (with_reducible exact LeO.refl _)
      | (with_reducible exact LeO.none _)
      | (with_reducible refine LeO.ite ?_ ?_)
      | (with_reducible refine LeO.bind ?_ (fun _ => ?_))
      | exact ih0 _ _
      | exact ih1 _ _ _
      | exact ih2 _ _ _ _ _ _ _ _
      | exact ih3 _ _ _ _ _ _ _ _ _ _ _ _
      | exact ih4 _ _ _ _ _ _ _ _ _ _ _ _ _ _ _
      | exact ih5 _ _ _ _ _ _ _ _ _ _ _ _ _ _ _
      | exact ih6 _ _ _ _ _ _ _ _ _ _ _ _
      | exact ih7 _ _ _ _ _ _ _ _ _ _ _ _ _
      | exact gimballaw13_may.mono _ _ _ _ _ _
      | exact gimballaw13_wakes.mono _
      | exact median_Take.mono _ _ _ _ _ _
      | exact LeO.none _
      | refine LeO.ite ?_ ?_
      | refine LeO.bind ?_ (fun _ => ?_)
    · intro y0 y1 y2
      unfold gimballaw13_MedianMiddle.j1
      repeat' first
      | (with_reducible exact ih0 _ _)
      | (with_reducible exact ih1 _ _ _)
      | (with_reducible exact ih2 _ _ _ _ _ _ _ _)
      | (with_reducible exact ih3 _ _ _ _ _ _ _ _ _ _ _ _)
      | (with_reducible exact ih4 _ _ _ _ _ _ _ _ _ _ _ _ _ _ _)
      | (with_reducible exact ih5 _ _ _ _ _ _ _ _ _ _ _ _ _ _ _)
      | (with_reducible exact ih6 _ _ _ _ _ _ _ _ _ _ _ _)
      | (with_reducible exact ih7 _ _ _ _ _ _ _ _ _ _ _ _ _)
      | (with_reducible exact gimballaw13_may.mono _ _ _ _ _ _)
      | (with_reducible exact gimballaw13_wakes.mono _)
      | (with_reducible exact median_Take.mono _ _ _ _ _ _)
      | (with_reducible exact LeO.refl _)
      | (with_reducible exact LeO.none _)
      | (with_reducible refine LeO.ite ?_ ?_)
      | (with_reducible refine LeO.bind ?_ (fun _ => ?_))
      | exact ih0 _ _
      | exact ih1 _ _ _
      | exact ih2 _ _ _ _ _ _ _ _
      | exact ih3 _ _ _ _ _ _ _ _ _ _ _ _
      | exact ih4 _ _ _ _ _ _ _ _ _ _ _ _ _ _ _
      | exact ih5 _ _ _ _ _ _ _ _ _ _ _ _ _ _ _
      | exact ih6 _ _ _ _ _ _ _ _ _ _ _ _
      | exact ih7 _ _ _ _ _ _ _ _ _ _ _ _ _
      | exact gimballaw13_may.mono _ _ _ _ _ _
      | exact gimballaw13_wakes.mono _
      | exact median_Take.mono _ _ _ _ _ _
      | exact LeO.none _
      | refine LeO.ite ?_ ?_
      | refine LeO.bind ?_ (fun _ => ?_)
    · intro y0 y1 y2 y3 y4 y5 y6 y7
      unfold gimballaw13_MedianMiddle.j2
      repeat' first
      | (with_reducible exact ih0 _ _)
      | (with_reducible exact ih1 _ _ _)
      | (with_reducible exact ih2 _ _ _ _ _ _ _ _)
      | (with_reducible exact ih3 _ _ _ _ _ _ _ _ _ _ _ _)
      | (with_reducible exact ih4 _ _ _ _ _ _ _ _ _ _ _ _ _ _ _)
      | (with_reducible exact ih5 _ _ _ _ _ _ _ _ _ _ _ _ _ _ _)
      | (with_reducible exact ih6 _ _ _ _ _ _ _ _ _ _ _ _)
      | (with_reducible exact ih7 _ _ _ _ _ _ _ _ _ _ _ _ _)
      | (with_reducible exact gimballaw13_may.mono _ _ _ _ _ _)
      | (with_reducible exact gimballaw13_wakes.mono _)
      | (with_reducible exact median_Take.mono _ _ _ _ _ _)
      | (with_reducible exact LeO.refl _)
      | (with_reducible exact LeO.none _)
      | (with_reducible refine LeO.ite ?_ ?_)
      | (with_reducible refine LeO.bind ?_ (fun _ => ?_))
      | exact ih0 _ _
      | exact ih1 _ _ _
      | exact ih2 _ _ _ _ _ _ _ _
      | exact ih3 _ _ _ _ _ _ _ _ _ _ _ _
      | exact ih4 _ _ _ _ _ _ _ _ _ _ _ _ _ _ _
      | exact ih5 _ _ _ _ _ _ _ _ _ _ _ _ _ _ _
      | exact ih6 _ _ _ _ _ _ _ _ _ _ _ _
      | exact ih7 _ _ _ _ _ _ _ _ _ _ _ _ _
      | exact gimballaw13_may.mono _ _ _ _ _ _
      | exact gimballaw13_wakes.mono _
      | exact median_Take.mono _ _ _ _ _ _
      | exact LeO.none _
      | refine LeO.ite ?_ ?_
      | refine LeO.bind ?_ (fun _ => ?_)
    · intro y0 y1 y2 y3 y4 y5 y6 y7 y8 y9 y10 y11
      unfold gimballaw13_MedianMiddle.j3
      repeat' first
      | (with_reducible exact ih0 _ _)
      | (with_reducible exact ih1 _ _ _)
      | (with_reducible exact ih2 _ _ _ _ _ _ _ _)
      | (with_reducible exact ih3 _ _ _ _ _ _ _ _ _ _ _ _)
      | (with_reducible exact ih4 _ _ _ _ _ _ _ _ _ _ _ _ _ _ _)
      | (with_reducible exact ih5 _ _ _ _ _ _ _ _ _ _ _ _ _ _ _)
      | (with_reducible exact ih6 _ _ _ _ _ _ _ _ _ _ _ _)
      | (with_reducible exact ih7 _ _ _ _ _ _ _ _ _ _ _ _ _)
      | (with_reducible exact gimballaw13_may.mono _ _ _ _ _ _)
      | (with_reducible exact gimballaw13_wakes.mono _)
      | (with_reducible exact median_Take.mono _ _ _ _ _ _)
      | (with_reducible exact LeO.refl _)
      | (with_reducible exact LeO.none _)
      | (with_reducible refine LeO.ite ?_ ?_)
      | (with_reducible refine LeO.bind ?_ (fun _ => ?_))
      | exact ih0 _ _
      | exact ih1 _ _ _
      | exact ih2 _ _ _ _ _ _ _ _
      | exact ih3 _ _ _ _ _ _ _ _ _ _ _ _
      | exact ih4 _ _ _ _ _ _ _ _ _ _ _ _ _ _ _
      | exact ih5 _ _ _ _ _ _ _ _ _ _ _ _ _ _ _
      | exact ih6 _ _ _ _ _ _ _ _ _ _ _ _
      | exact ih7 _ _ _ _ _ _ _ _ _ _ _ _ _
      | exact gimballaw13_may.mono _ _ _ _ _ _
      | exact gimballaw13_wakes.mono _
      | exact median_Take.mono _ _ _ _ _ _
      | exact LeO.none _
      | refine LeO.ite ?_ ?_
      | refine LeO.bind ?_ (fun _ => ?_)
    · intro y0 y1 y2 y3 y4 y5 y6 y7 y8 y9 y10 y11 y12 y13 y14
      unfold gimballaw13_MedianMiddle.l1
      repeat' first
      | (with_reducible exact ih0 _ _)
      | (with_reducible exact ih1 _ _ _)
      | (with_reducible exact ih2 _ _ _ _ _ _ _ _)
      | (with_reducible exact ih3 _ _ _ _ _ _ _ _ _ _ _ _)
      | (with_reducible exact ih4 _ _ _ _ _ _ _ _ _ _ _ _ _ _ _)
      | (with_reducible exact ih5 _ _ _ _ _ _ _ _ _ _ _ _ _ _ _)
      | (with_reducible exact ih6 _ _ _ _ _ _ _ _ _ _ _ _)
      | (with_reducible exact ih7 _ _ _ _ _ _ _ _ _ _ _ _ _)
      | (with_reducible exact gimballaw13_may.mono _ _ _ _ _ _)
      | (with_reducible exact gimballaw13_wakes.mono _)
      | (with_reducible exact median_Take.mono _ _ _ _ _ _)
      | (with_reducible exact LeO.refl _)
      | (with_reducible exact LeO.none _)
      | (with_reducible refine LeO.ite ?_ ?_)
      | (with_reducible refine LeO.bind ?_ (fun _ => ?_))
      | exact ih0 _ _
      | exact ih1 _ _ _
      | exact ih2 _ _ _ _ _ _ _ _
      | exact ih3 _ _ _ _ _ _ _ _ _ _ _ _
      | exact ih4 _ _ _ _ _ _ _ _ _ _ _ _ _ _ _
      | exact ih5 _ _ _ _ _ _ _ _ _ _ _ _ _ _ _
      | exact ih6 _ _ _ _ _ _ _ _ _ _ _ _
      | exact ih7 _ _ _ _ _ _ _ _ _ _ _ _ _
      | exact gimballaw13_may.mono _ _ _ _ _ _
      | exact gimballaw13_wakes.mono _
      | exact median_Take.mono _ _ _ _ _ _
      | exact LeO.none _
      | refine LeO.ite ?_ ?_
      | refine LeO.bind ?_ (fun _ => ?_)
    · intro y0 y1 y2 y3 y4 y5 y6 y7 y8 y9 y10 y11 y12 y13 y14
      unfold gimballaw13_MedianMiddle.j5
      repeat' first
      | (with_reducible exact ih0 _ _)
      | (with_reducible exact ih1 _ _ _)
      | (with_reducible exact ih2 _ _ _ _ _ _ _ _)
      | (with_reducible exact ih3 _ _ _ _ _ _ _ _ _ _ _ _)
      | (with_reducible exact ih4 _ _ _ _ _ _ _ _ _ _ _ _ _ _ _)
      | (with_reducible exact ih5 _ _ _ _ _ _ _ _ _ _ _ _ _ _ _)
      | (with_reducible exact ih6 _ _ _ _ _ _ _ _ _ _ _ _)
      | (with_reducible exact ih7 _ _ _ _ _ _ _ _ _ _ _ _ _)
      | (with_reducible exact gimballaw13_may.mono _ _ _ _ _ _)
      | (with_reducible exact gimballaw13_wakes.mono _)
      | (with_reducible exact median_Take.mono _ _ _ _ _ _)
      | (with_reducible exact LeO.refl _)
      | (with_reducible exact LeO.none _)
      | (with_reducible refine LeO.ite ?_ ?_)
      | (with_reducible refine LeO.bind ?_ (fun _ => ?_))
      | exact ih0 _ _
      | exact ih1 _ _ _
      | exact ih2 _ _ _ _ _ _ _ _
      | exact ih3 _ _ _ _ _ _ _ _ _ _ _ _
      | exact ih4 _ _ _ _ _ _ _ _ _ _ _ _ _ _ _
      | exact ih5 _ _ _ _ _ _ _ _ _ _ _ _ _ _ _
      | exact ih6 _ _ _ _ _ _ _ _ _ _ _ _
      | exact ih7 _ _ _ _ _ _ _ _ _ _ _ _ _
      | exact gimballaw13_may.mono _ _ _ _ _ _
      | exact gimballaw13_wakes.mono _
      | exact median_Take.mono _ _ _ _ _ _
      | exact LeO.none _
      | refine LeO.ite ?_ ?_
      | refine LeO.bind ?_ (fun _ => ?_)
    · intro y0 y1 y2 y3 y4 y5 y6 y7 y8 y9 y10 y11
      unfold gimballaw13_MedianMiddle.j6
      repeat' first
      | (with_reducible exact ih0 _ _)
      | (with_reducible exact ih1 _ _ _)
      | (with_reducible exact ih2 _ _ _ _ _ _ _ _)
      | (with_reducible exact ih3 _ _ _ _ _ _ _ _ _ _ _ _)
      | (with_reducible exact ih4 _ _ _ _ _ _ _ _ _ _ _ _ _ _ _)
      | (with_reducible exact ih5 _ _ _ _ _ _ _ _ _ _ _ _ _ _ _)
      | (with_reducible exact ih6 _ _ _ _ _ _ _ _ _ _ _ _)
      | (with_reducible exact ih7 _ _ _ _ _ _ _ _ _ _ _ _ _)
      | (with_reducible exact gimballaw13_may.mono _ _ _ _ _ _)
      | (with_reducible exact gimballaw13_wakes.mono _)
      | (with_reducible exact median_Take.mono _ _ _ _ _ _)
      | (with_reducible exact LeO.refl _)
      | (with_reducible exact LeO.none _)
      | (with_reducible refine LeO.ite ?_ ?_)
      | (with_reducible refine LeO.bind ?_ (fun _ => ?_))
      | exact ih0 _ _
      | exact ih1 _ _ _
      | exact ih2 _ _ _ _ _ _ _ _
      | exact ih3 _ _ _ _ _ _ _ _ _ _ _ _
      | exact ih4 _ _ _ _ _ _ _ _ _ _ _ _ _ _ _
      | exact ih5 _ _ _ _ _ _ _ _ _ _ _ _ _ _ _
      | exact ih6 _ _ _ _ _ _ _ _ _ _ _ _
      | exact ih7 _ _ _ _ _ _ _ _ _ _ _ _ _
      | exact gimballaw13_may.mono _ _ _ _ _ _
      | exact gimballaw13_wakes.mono _
      | exact median_Take.mono _ _ _ _ _ _
      | exact LeO.none _
      | refine LeO.ite ?_ ?_
      | refine LeO.bind ?_ (fun _ => ?_)
    · intro y0 y1 y2 y3 y4 y5 y6 y7 y8 y9 y10 y11 y12
      unfold gimballaw13_MedianMiddle.l2
      repeat' first
      | (with_reducible exact ih0 _ _)
      | (with_reducible exact ih1 _ _ _)
      | (with_reducible exact ih2 _ _ _ _ _ _ _ _)
      | (with_reducible exact ih3 _ _ _ _ _ _ _ _ _ _ _ _)
      | (with_reducible exact ih4 _ _ _ _ _ _ _ _ _ _ _ _ _ _ _)
      | (with_reducible exact ih5 _ _ _ _ _ _ _ _ _ _ _ _ _ _ _)
      | (with_reducible exact ih6 _ _ _ _ _ _ _ _ _ _ _ _)
      | (with_reducible exact ih7 _ _ _ _ _ _ _ _ _ _ _ _ _)
      | (with_reducible exact gimballaw13_may.mono _ _ _ _ _ _)
      | (with_reducible exact gimballaw13_wakes.mono _)
      | (with_reducible exact median_Take.mono _ _ _ _ _ _)
      | (with_reducible exact LeO.refl _)
      | (with_reducible exact LeO.none _)
      | (with_reducible refine LeO.ite ?_ ?_)
      | (with_reducible refine LeO.bind ?_ (fun _ => ?_))
      | exact ih0 _ _
      | exact ih1 _ _ _
      | exact ih2 _ _ _ _ _ _ _ _
      | exact ih3 _ _ _ _ _ _ _ _ _ _ _ _
      | exact ih4 _ _ _ _ _ _ _ _ _ _ _ _ _ _ _
      | exact ih5 _ _ _ _ _ _ _ _ _ _ _ _ _ _ _
      | exact ih6 _ _ _ _ _ _ _ _ _ _ _ _
      | exact ih7 _ _ _ _ _ _ _ _ _ _ _ _ _
      | exact gimballaw13_may.mono _ _ _ _ _ _
      | exact gimballaw13_wakes.mono _
      | exact median_Take.mono _ _ _ _ _ _
      | exact LeO.none _
      | refine LeO.ite ?_ ?_
      | refine LeO.bind ?_ (fun _ => ?_)
theorem gimballaw13_MedianMiddle.mono : ∀ a0 k, LeO (gimballaw13_MedianMiddle.f k a0) (gimballaw13_MedianMiddle.f (k + 1) a0) := by
  intro a0 k
  obtain ⟨ih0, ih1, ih2, ih3, ih4, ih5, ih6, ih7⟩ := gimballaw13_MedianMiddle.mono_l k
  unfold gimballaw13_MedianMiddle.f
  repeat' first
      | (with_reducible exact ih0 _ _)
      | (with_reducible exact ih1 _ _ _)
      | (with_reducible exact ih2 _ _ _ _ _ _ _ _)
      | (with_reducible exact ih3 _ _ _ _ _ _ _ _ _ _ _ _)
      | (with_reducible exact ih4 _ _ _ _ _ _ _ _ _ _ _ _ _ _ _)
      | (with_reducible exact ih5 _ _ _ _ _ _ _ _ _ _ _ _ _ _ _)
      | (with_reducible exact ih6 _ _ _ _ _ _ _ _ _ _ _ _)
      | (with_reducible exact ih7 _ _ _ _ _ _ _ _ _ _ _ _ _)
      | (with_reducible exact gimballaw13_may.mono _ _ _ _ _ _)
      | (with_reducible exact gimballaw13_wakes.mono _)
      | (with_reducible exact median_Take.mono _ _ _ _ _ _)
      | (with_reducible exact LeO.refl _)
      | (with_reducible exact LeO.none _)
      | (with_reducible refine LeO.ite ?_ ?_)
      | (with_reducible refine LeO.bind ?_ (fun _ => ?_))
      | exact ih0 _ _
      | exact ih1 _ _ _
      | exact ih2 _ _ _ _ _ _ _ _
      | exact ih3 _ _ _ _ _ _ _ _ _ _ _ _
      | exact ih4 _ _ _ _ _ _ _ _ _ _ _ _ _ _ _
      | exact ih5 _ _ _ _ _ _ _ _ _ _ _ _ _ _ _
      | exact ih6 _ _ _ _ _ _ _ _ _ _ _ _
      | exact ih7 _ _ _ _ _ _ _ _ _ _ _ _ _
      | exact gimballaw13_may.mono _ _ _ _ _ _
      | exact gimballaw13_wakes.mono _
      | exact median_Take.mono _ _ _ _ _ _
      | exact LeO.none _
      | refine LeO.ite ?_ ?_
      | refine LeO.bind ?_ (fun _ => ?_)
def gimballaw13_MedianMiddle.T6 : Bool × List (List Nat × List Nat) := (true, [([], []), ([0], [0]), ([], []), ([2], [2]), ([3], [3]), ([], []), ([5], [5]), ([6], [6]), ([4, 7], [4, 7]), ([1, 8], [1, 8]), ([], []), ([10], [10]), ([], []), ([12], [12]), ([9, 11, 13], [9, 11, 13]), ([14], [14]), ([15], [15]), ([15], [15]), ([15], [15]), ([], []), ([16, 14, 0, 1, 2, 3, 4, 5, 6, 7, 8, 9, 10, 11, 12, 13, 14, 15, 16, 19], [16]), ([19, 17, 20, 0, 1, 2, 3, 4, 5, 6, 7, 8, 9, 10, 11, 12, 13, 14, 15, 16, 17, 19, 20], [17, 19]), ([18, 21, 0, 1, 2, 3, 4, 5, 6, 7, 8, 9, 10, 11, 12, 13, 14, 15, 16, 17, 18, 19, 20, 21], [18])])
def gimballaw13_MedianMiddle.B6 : List Nat := [0, 1, 0, 4, 12, 0, 32, 96, 252, 511, 0, 1024, 0, 4096, 16383, 32767, 65535, 65535, 65535, 0, 655359, 1835007, 4194303]
theorem gimballaw13_MedianMiddle.tab6 : rtab .any (opsOf Try.f4 6) = gimballaw13_MedianMiddle.T6 := by kernel_rfl
theorem gimballaw13_MedianMiddle.bits6 : waitsOk gimballaw13_MedianMiddle.T6.2 gimballaw13_MedianMiddle.B6 = true := by kernel_rfl
def gimballaw13_MedianMiddle.T13 : Bool × List (List Nat × List Nat) := (true, [([], []), ([], []), ([0, 1], [0, 1]), ([2], [2]), ([3], [3]), ([], []), ([5], [5]), ([4, 6], [4, 6])])
def gimballaw13_MedianMiddle.B13 : List Nat := [0, 0, 3, 7, 15, 0, 32, 127]
theorem gimballaw13_MedianMiddle.tab13 : rtab .any (opsOf Try.f4 13) = gimballaw13_MedianMiddle.T13 := by kernel_rfl
theorem gimballaw13_MedianMiddle.bits13 : waitsOk gimballaw13_MedianMiddle.T13.2 gimballaw13_MedianMiddle.B13 = true := by kernel_rfl
def gimballaw13_MedianMiddle.T15 : Bool × List (List Nat × List Nat) := (true, [([], []), ([], []), ([0, 1], [0, 1]), ([2], [2]), ([3], [3]), ([], []), ([5], [5]), ([4, 6], [4, 6])])
def gimballaw13_MedianMiddle.B15 : List Nat := [0, 0, 3, 7, 15, 0, 32, 127]
theorem gimballaw13_MedianMiddle.tab15 : rtab .any (opsOf Try.f4 15) = gimballaw13_MedianMiddle.T15 := by kernel_rfl
theorem gimballaw13_MedianMiddle.bits15 : waitsOk gimballaw13_MedianMiddle.T15.2 gimballaw13_MedianMiddle.B15 = true := by kernel_rfl
def gimballaw13_MedianMiddle.T17 : Bool × List (List Nat × List Nat) := (true, [([], []), ([], []), ([0, 1], [0, 1]), ([2], [2]), ([3], [3]), ([], []), ([5], [5]), ([4, 6], [4, 6])])
def gimballaw13_MedianMiddle.B17 : List Nat := [0, 0, 3, 7, 15, 0, 32, 127]
theorem gimballaw13_MedianMiddle.tab17 : rtab .any (opsOf Try.f4 17) = gimballaw13_MedianMiddle.T17 := by kernel_rfl
theorem gimballaw13_MedianMiddle.bits17 : waitsOk gimballaw13_MedianMiddle.T17.2 gimballaw13_MedianMiddle.B17 = true := by kernel_rfl
def gimballaw13_MedianMiddle.T26 : Bool × List (List Nat × List Nat) := (true, [([], []), ([], []), ([1], [1]), ([], []), ([3], [3]), ([4], [4]), ([0, 2, 5], [0, 2, 5]), ([6], [6]), ([7], [7]), ([7], [7]), ([7], [7]), ([], []), ([8, 6, 0, 1, 2, 3, 4, 5, 6, 7, 8, 11], [8]), ([11, 9, 12, 0, 1, 2, 3, 4, 5, 6, 7, 8, 9, 11, 12], [9, 11]), ([10, 13, 0, 1, 2, 3, 4, 5, 6, 7, 8, 9, 10, 11, 12, 13], [10])])
def gimballaw13_MedianMiddle.B26 : List Nat := [0, 0, 2, 0, 8, 24, 63, 127, 255, 255, 255, 0, 2559, 7167, 16383]
theorem gimballaw13_MedianMiddle.tab26 : rtab .any (opsOf Try.f4 26) = gimballaw13_MedianMiddle.T26 := by kernel_rfl
theorem gimballaw13_MedianMiddle.bits26 : waitsOk gimballaw13_MedianMiddle.T26.2 gimballaw13_MedianMiddle.B26 = true := by kernel_rfl
set_option maxHeartbeats 8000000 in
set_option maxRecDepth 100000 in
theorem gimballaw13_MedianMiddle.calls (k : Nat) (A0 : Option Addr) (c0 : Nat) (l0 : List (S27)) (r : Bool) (w : World) (hr0 : Kd.C k27 w A0 l0.length l0) (hc0 : l0.length ≤ c0) (h : gimballaw13_MedianMiddle.f k l0 = some r) (hrt_ : Aside0 (r = true)) :
    Calls Try.prog 4 #[.slice A0 l0.length c0] w fun e w' => e = .returned (.bool r) ∧ Below w.heap.size w w' := by
  have hu27 := Try.underlying27
  have hu25 := Try.underlying25
  have HR0 := Aside0.mk hr0
  have HC0 := Aside0.mk hc0
  clear hr0 hc0
  have HB := Aside0.mk (Below.refl w.heap.size w)
  have H : (gimballaw13_MedianMiddle.l0 k l0 0) = some r := h
  clear h
  have H' := Aside0.mk H
  clear H
  go_enter Try.func4, Try.ntmps4
  go_wp2
  go_loopg [3] k (fun kq v3 w' => ∃ (x3_1 : Int), v3 = .int .i64 x3_1 ∧ Aside0 (gimballaw13_MedianMiddle.l0 kq l0 x3_1 = some r) ∧ Aside0 (kq ≤ k) ∧ Aside0 (Below w.heap.size w w'))
  case atStart => exact ⟨(0), (by first | rfl | (simp; done) | (simp [*]; done)), H', ⟨Nat.le_refl _⟩, ⟨by repeat (first | (with_reducible first | exact HB.out | apply below_alloc | apply pw_below_drewN | apply below_drew1) | exact HB.out)⟩⟩
  case round =>
    clear H'
    obtain ⟨x3_1, rfl, HA, HK1, HB⟩ := hrel
    cases gk with
    | zero => exact absurd HA.out (by simp [gimballaw13_MedianMiddle.l0])
    | succ k1 =>
      have H := HA.out
      clear HA
      simp only [gimballaw13_MedianMiddle.l0] at H
      have HC2 := Aside0.mk H
      clear H
      go_upto_region 2 with (fail)
      go_cut [24] (fun v24 wc => ∃ (kq : Nat) (x24_1 : Bool), v24 = .bool x24_1 ∧ Aside0 (gimballaw13_MedianMiddle.j1 kq l0 x3_1 x24_1 = some r) ∧ Aside0 (kq ≤ k1) ∧ Aside0 (Below w.heap.size w wc))
      case first =>
        have H := HC2.out
        clear HC2
        by_cases c3 : x3_1 < (l0.length : Int)
        · rw [if_pos c3] at H
          have c3b0 : decide (x3_1 < (l0.length : Int)) = true := decide_eq_true c3
          clear c3
          (first | rw [c3b0] | (simp only [i64_w, i32_w]; rw [c3b0]) | skip)
          have H' := Aside0.mk H
          clear H
          go_wp2
          go_meet
          case rel => exact ⟨_, (decide (x3_1 < 20)), (by first | rfl | (simp; done) | (simp [*]; done)), H', ⟨by have := HK1.out; first | omega | exact Nat.le_refl _⟩, ⟨by repeat (first | (with_reducible first | exact HB.out | apply below_alloc | apply pw_below_drewN | apply below_drew1) | exact HB.out)⟩⟩
        rw [if_neg c3] at H
        have c3b0 : decide (x3_1 < (l0.length : Int)) = false := decide_eq_false c3
        clear c3
        (first | rw [c3b0] | (simp only [i64_w, i32_w]; rw [c3b0]) | skip)
        have H' := Aside0.mk H
        clear H
        go_wp2
        go_meet
        case rel => exact ⟨_, (false), (by first | rfl | (simp; done) | (simp [*]; done)), H', ⟨by have := HK1.out; first | omega | exact Nat.le_refl _⟩, ⟨by repeat (first | (with_reducible first | exact HB.out | apply below_alloc | apply pw_below_drewN | apply below_drew1) | exact HB.out)⟩⟩
      case rest =>
        clear HC2
        try clear p2
        try clear c3
        try clear c3b0
        obtain ⟨kq, x24_1, rfl, HA, HJ1, HB⟩ := hcut
        cases kq with
        | zero => exact absurd HA.out (by simp [gimballaw13_MedianMiddle.j1])
        | succ kj1 =>
          have H := HA.out
          clear HA
          simp only [gimballaw13_MedianMiddle.j1] at H
          by_cases c4 : x24_1 = true
          · subst c4
            have H1 : (if 0 ≤ x3_1 then (if x3_1 < (l0.length : Int) then ((gimballaw13_may.f kj1 ((rd_T27 l0 x3_1).f0) ((rd_T27 l0 x3_1).f1) ((rd_T27 l0 x3_1).f2.f0) ((rd_T27 l0 x3_1).f2.f1) ((rd_T27 l0 x3_1).f2.f2)).bind fun t157 => (if t157 = true then (gimballaw13_MedianMiddle.j2 kj1 l0 x3_1 (decide ((((rd_T27 l0 x3_1).f0).length : Int) < (wrap64 (((rd_T27 l0 x3_1).f1) - 1)))) ((rd_T27 l0 x3_1).f0) ((rd_T27 l0 x3_1).f1) ((rd_T27 l0 x3_1).f2.f0) ((rd_T27 l0 x3_1).f2.f1) ((rd_T27 l0 x3_1).f2.f2)) else (gimballaw13_MedianMiddle.j2 kj1 l0 x3_1 true ((rd_T27 l0 x3_1).f0) ((rd_T27 l0 x3_1).f1) ((rd_T27 l0 x3_1).f2.f0) ((rd_T27 l0 x3_1).f2.f1) ((rd_T27 l0 x3_1).f2.f2)))) else (none)) else (none)) = some r := by rw [if_pos rfl] at H; exact H
            clear H
            have H := H1
            clear H1
            by_cases c5 : 0 ≤ x3_1
            rotate_left
            · rw [if_neg c5] at H
              exact absurd H (by simp)
            rw [if_pos c5] at H
            have c5b0 : decide (0 ≤ x3_1) = true := decide_eq_true c5
            clear c5
            by_cases c6 : x3_1 < (l0.length : Int)
            rotate_left
            · rw [if_neg c6] at H
              exact absurd H (by simp)
            rw [if_pos c6] at H
            have c6b0 : decide (x3_1 < (l0.length : Int)) = true := decide_eq_true c6
            clear c6
            have HC7 := Aside0.mk H
            clear H
            have p155 : 0 ≤ (x3_1 : Int) := of_decide_eq_true (by first | (with_reducible assumption) | assumption)
            have q155 : x3_1 < (l0.length : Int) := of_decide_eq_true (by first | (with_reducible assumption) | assumption)
            obtain ⟨ad155, A155_0, c155_0, e155, hx155_0, hx155_1, hx155_2, hx155_3, hx155_4, hl155_0, hi155_0⟩ := at_T27 HR0.out x3_1 p155 q155
            cases e155
            replace hx155_0 := (HB.out.cell (World.block_lt_of_cell? w _ hx155_0)).trans hx155_0
            replace hx155_1 := (HB.out.cell (World.block_lt_of_cell? w _ hx155_1)).trans hx155_1
            replace hx155_2 := (HB.out.cell (World.block_lt_of_cell? w _ hx155_2)).trans hx155_2
            replace hx155_3 := (HB.out.cell (World.block_lt_of_cell? w _ hx155_3)).trans hx155_3
            replace hx155_4 := (HB.out.cell (World.block_lt_of_cell? w _ hx155_4)).trans hx155_4
            have HR155_0 := Aside0.mk hi155_0
            have HC155_0 := Aside0.mk hl155_0
            clear hi155_0 hl155_0
            replace p155 := eq_true p155
            replace q155 := eq_true q155
            go_upto_region 5 with (first | ((with_reducible refine gate_dst (N := 4) rfl ?_); (try (refine gate_guard (by rfl) ?_; dsimp only)); refine box_event ?hg (N := 4) ?hd (cs := #[.slice none 0 0, .int .i64 0, .int .i64 0, .int .i64 0, .int .i64 0]) (t := 27) ?hr ?_; (case hd => rfl); (case hg => rfl); (case hr => first | (go_simp; done) | (go_simp; rfl)); intro gb156 hg w8 hbox hb; have n0_ := Aside0.mk (below_step (by repeat (first | (with_reducible first | exact HB.out | apply below_alloc | apply pw_below_drewN | apply below_drew1) | exact HB.out)) hb); have n1_ := Aside0.mk (hbox); have n2_ := Aside0.mk ((by rw [hg]; exact (below_size (by repeat (first | (with_reducible first | exact HB.out | apply below_alloc | apply pw_below_drewN | apply below_drew1) | exact HB.out))) : w.heap.size ≤ gb156)); have n3_ := Aside0.mk ((by rw [hg]; exact (below_size (by repeat (first | (with_reducible first | exact HB.out | apply below_alloc | apply pw_below_drewN | apply below_drew1) | exact HB.out))) : w.heap.size ≤ gb156)); clear HB; have HB := n0_; have BK156 := n1_; have GW156 := n2_; have GE156 := n3_; clear n0_ n1_ n2_ n3_; clear hb hbox hg; have hcz9_0 : w8.cell? ⟨gb156, 0, none⟩ = some (.slice none 0 0) := (blk_cell BK156.out 0).trans rfl; have hcz9_1 : w8.cell? ⟨gb156, 1, none⟩ = some (.int .i64 0) := (blk_cell BK156.out 1).trans rfl; have hcz9_2 : w8.cell? ⟨gb156, 2, none⟩ = some (.int .i64 0) := (blk_cell BK156.out 2).trans rfl; have hcz9_3 : w8.cell? ⟨gb156, 3, none⟩ = some (.int .i64 0) := (blk_cell BK156.out 3).trans rfl; have hcz9_4 : w8.cell? ⟨gb156, 4, none⟩ = some (.int .i64 0) := (blk_cell BK156.out 4).trans rfl; have hfz9_0 := blk_frozen BK156.out 0; have hfz9_1 := blk_frozen BK156.out 1; have hfz9_2 := blk_frozen BK156.out 2; have hfz9_3 := blk_frozen BK156.out 3; have hfz9_4 := blk_frozen BK156.out 4))
            (try simp only [Act.put, List.setIfInBounds_toArray, List.set_cons_zero, List.set_cons_succ])
            go_cut [42] (fun v42 wc => ∃ (kq : Nat) (x42_6 : Bool), v42 = .bool x42_6 ∧ Aside0 (gimballaw13_MedianMiddle.j2 kq l0 x3_1 x42_6 ((rd_T27 l0 x3_1).f0) ((rd_T27 l0 x3_1).f1) ((rd_T27 l0 x3_1).f2.f0) ((rd_T27 l0 x3_1).f2.f1) ((rd_T27 l0 x3_1).f2.f2) = some r) ∧ Aside0 (kq ≤ kj1) ∧ Aside0 (wc.heap[gb156]? = some (.cells #[(.slice A155_0 ((rd_T27 l0 x3_1).f0).length c155_0), .int .i64 ((rd_T27 l0 x3_1).f1), .int .i64 ((rd_T27 l0 x3_1).f2.f0), .int .i64 ((rd_T27 l0 x3_1).f2.f1), .int .i64 ((rd_T27 l0 x3_1).f2.f2)] 27 (0, 0))) ∧ Aside0 (Below w.heap.size w wc))
            case first =>
              have H := HC7.out
              clear HC7
              replace H := Option.bind_eq_some_iff.mp H
              obtain ⟨t157, A100, H⟩ := H
              replace H : (if t157 = true then (gimballaw13_MedianMiddle.j2 kj1 l0 x3_1 (decide ((((rd_T27 l0 x3_1).f0).length : Int) < (wrap64 (((rd_T27 l0 x3_1).f1) - 1)))) ((rd_T27 l0 x3_1).f0) ((rd_T27 l0 x3_1).f1) ((rd_T27 l0 x3_1).f2.f0) ((rd_T27 l0 x3_1).f2.f1) ((rd_T27 l0 x3_1).f2.f2)) else (gimballaw13_MedianMiddle.j2 kj1 l0 x3_1 true ((rd_T27 l0 x3_1).f0) ((rd_T27 l0 x3_1).f1) ((rd_T27 l0 x3_1).f2.f0) ((rd_T27 l0 x3_1).f2.f1) ((rd_T27 l0 x3_1).f2.f2))) = some r := H
              have A10 := Aside0.mk A100
              clear A100
              by_cases c11 : t157 = true
              · subst c11
                have H1 : (gimballaw13_MedianMiddle.j2 kj1 l0 x3_1 (decide ((((rd_T27 l0 x3_1).f0).length : Int) < (wrap64 (((rd_T27 l0 x3_1).f1) - 1)))) ((rd_T27 l0 x3_1).f0) ((rd_T27 l0 x3_1).f1) ((rd_T27 l0 x3_1).f2.f0) ((rd_T27 l0 x3_1).f2.f1) ((rd_T27 l0 x3_1).f2.f2)) = some r := by rw [if_pos rfl] at H; exact H
                clear H
                have H := H1
                clear H1
                have H' := Aside0.mk H
                clear H
                have hcz12_0 : w8.cell? ⟨gb156, 0, none⟩ = some (.slice none 0 0) := (blk_cell BK156.out 0).trans rfl
                have hcz12_1 : w8.cell? ⟨gb156, 1, none⟩ = some (.int .i64 0) := (blk_cell BK156.out 1).trans rfl
                have hcz12_2 : w8.cell? ⟨gb156, 2, none⟩ = some (.int .i64 0) := (blk_cell BK156.out 2).trans rfl
                have hcz12_3 : w8.cell? ⟨gb156, 3, none⟩ = some (.int .i64 0) := (blk_cell BK156.out 3).trans rfl
                have hcz12_4 : w8.cell? ⟨gb156, 4, none⟩ = some (.int .i64 0) := (blk_cell BK156.out 4).trans rfl
                have hfz12_0 := blk_frozen BK156.out 0
                have hfz12_1 := blk_frozen BK156.out 1
                have hfz12_2 := blk_frozen BK156.out 2
                have hfz12_3 := blk_frozen BK156.out 3
                have hfz12_4 := blk_frozen BK156.out 4
                go_wp2_with (first | ((with_reducible refine gate_callee (f := 6) rfl ?_); refine goesL_ (some 32) rfl rfl Try.func6 (by kernel_rfl) rfl #[.agg #[.slice A155_0 ((rd_T27 l0 x3_1).f0).length c155_0, .int .i64 ((rd_T27 l0 x3_1).f1), .int .i64 ((rd_T27 l0 x3_1).f2.f0), .int .i64 ((rd_T27 l0 x3_1).f2.f1), .int .i64 ((rd_T27 l0 x3_1).f2.f2)]] rfl (by (try simp only [List.map_toArray, List.map_cons, List.map_nil]); first | done | rfl | (simp only [List.length_drop, List.length_take]; rfl)) ?_; (with_reducible refine (gimballaw13_may.calls kj1 _ _ ((rd_T27 l0 x3_1).f0) ((rd_T27 l0 x3_1).f1) ((rd_T27 l0 x3_1).f2.f0) ((rd_T27 l0 x3_1).f2.f1) ((rd_T27 l0 x3_1).f2.f2) true _ ?side1 ?side2 A10.out).mono ?_); (case side1 => exact Kd.C_below HR155_0.out (by repeat (first | (with_reducible first | exact HB.out | apply below_alloc | apply pw_below_drewN | apply below_drew1 | refine below_set ?_ GE156.out) | exact HB.out))); (case side2 => exact HC155_0.out); rintro e w13 ⟨rfl, hb⟩; refine ⟨_, rfl, ?_⟩; have n0_ := Aside0.mk (blk_below (g := gb156) (o := .cells #[.slice A155_0 ((rd_T27 l0 x3_1).f0).length c155_0, .int .i64 ((rd_T27 l0 x3_1).f1), .int .i64 ((rd_T27 l0 x3_1).f2.f0), .int .i64 ((rd_T27 l0 x3_1).f2.f1), .int .i64 ((rd_T27 l0 x3_1).f2.f2)] 27 (0, 0)) (by (with_reducible repeat (first | refine blk_drewN ?_ _ | refine blk_drew ?_ | refine blk_alloc ?_ _)); refine blk_put (cs := #[.slice A155_0 ((rd_T27 l0 x3_1).f0).length c155_0, .int .i64 ((rd_T27 l0 x3_1).f1), .int .i64 ((rd_T27 l0 x3_1).f2.f0), .int .i64 ((rd_T27 l0 x3_1).f2.f1), .int .i64 0]) ?_ 4 _ rfl; (with_reducible repeat (first | refine blk_drewN ?_ _ | refine blk_drew ?_ | refine blk_alloc ?_ _)); refine blk_put (cs := #[.slice A155_0 ((rd_T27 l0 x3_1).f0).length c155_0, .int .i64 ((rd_T27 l0 x3_1).f1), .int .i64 ((rd_T27 l0 x3_1).f2.f0), .int .i64 0, .int .i64 0]) ?_ 3 _ rfl; (with_reducible repeat (first | refine blk_drewN ?_ _ | refine blk_drew ?_ | refine blk_alloc ?_ _)); refine blk_put (cs := #[.slice A155_0 ((rd_T27 l0 x3_1).f0).length c155_0, .int .i64 ((rd_T27 l0 x3_1).f1), .int .i64 0, .int .i64 0, .int .i64 0]) ?_ 2 _ rfl; (with_reducible repeat (first | refine blk_drewN ?_ _ | refine blk_drew ?_ | refine blk_alloc ?_ _)); refine blk_put (cs := #[.slice A155_0 ((rd_T27 l0 x3_1).f0).length c155_0, .int .i64 0, .int .i64 0, .int .i64 0, .int .i64 0]) ?_ 1 _ rfl; (with_reducible repeat (first | refine blk_drewN ?_ _ | refine blk_drew ?_ | refine blk_alloc ?_ _)); refine blk_put (cs := #[.slice none 0 0, .int .i64 0, .int .i64 0, .int .i64 0, .int .i64 0]) ?_ 0 _ rfl; (with_reducible repeat (first | refine blk_drewN ?_ _ | refine blk_drew ?_ | refine blk_alloc ?_ _)); exact BK156.out) hb); have n1_ := Aside0.mk (below_step (by repeat (first | (with_reducible first | exact HB.out | apply below_alloc | apply pw_below_drewN | apply below_drew1 | refine below_set ?_ GE156.out) | exact HB.out)) hb); clear BK156; clear HB; have BK156 := n0_; have HB := n1_; clear n0_ n1_; (try clear hb); (try clear hb2); (try clear hk); (try clear hi); have hcz14_0 : w13.cell? ⟨gb156, 0, none⟩ = some (.slice A155_0 ((rd_T27 l0 x3_1).f0).length c155_0) := (blk_cell BK156.out 0).trans rfl; have hcz14_1 : w13.cell? ⟨gb156, 1, none⟩ = some (.int .i64 ((rd_T27 l0 x3_1).f1)) := (blk_cell BK156.out 1).trans rfl; have hcz14_2 : w13.cell? ⟨gb156, 2, none⟩ = some (.int .i64 ((rd_T27 l0 x3_1).f2.f0)) := (blk_cell BK156.out 2).trans rfl; have hcz14_3 : w13.cell? ⟨gb156, 3, none⟩ = some (.int .i64 ((rd_T27 l0 x3_1).f2.f1)) := (blk_cell BK156.out 3).trans rfl; have hcz14_4 : w13.cell? ⟨gb156, 4, none⟩ = some (.int .i64 ((rd_T27 l0 x3_1).f2.f2)) := (blk_cell BK156.out 4).trans rfl; have hfz14_0 := blk_frozen BK156.out 0; have hfz14_1 := blk_frozen BK156.out 1; have hfz14_2 := blk_frozen BK156.out 2; have hfz14_3 := blk_frozen BK156.out 3; have hfz14_4 := blk_frozen BK156.out 4))
                go_meet
                case rel => exact ⟨_, (decide ((((rd_T27 l0 x3_1).f0).length : Int) < (wrap64 (((rd_T27 l0 x3_1).f1) - 1)))), (by first | rfl | (simp; done) | (simp [*]; done)), H', ⟨by have := HK1.out; have := HJ1.out; first | omega | exact Nat.le_refl _⟩, ⟨by (with_reducible repeat (first | refine blk_drewN ?_ _ | refine blk_drew ?_ | refine blk_alloc ?_ _)); exact BK156.out⟩, ⟨by repeat (first | (with_reducible first | exact HB.out | apply below_alloc | apply pw_below_drewN | apply below_drew1 | refine below_set ?_ GE156.out) | exact HB.out)⟩⟩
              replace c11 := Bool.eq_false_iff.mpr c11
              subst c11
              have H1 : (gimballaw13_MedianMiddle.j2 kj1 l0 x3_1 true ((rd_T27 l0 x3_1).f0) ((rd_T27 l0 x3_1).f1) ((rd_T27 l0 x3_1).f2.f0) ((rd_T27 l0 x3_1).f2.f1) ((rd_T27 l0 x3_1).f2.f2)) = some r := by rw [if_neg (show ¬ (false = true) by decide)] at H; exact H
              clear H
              have H := H1
              clear H1
              have H' := Aside0.mk H
              clear H
              have hcz15_0 : w8.cell? ⟨gb156, 0, none⟩ = some (.slice none 0 0) := (blk_cell BK156.out 0).trans rfl
              have hcz15_1 : w8.cell? ⟨gb156, 1, none⟩ = some (.int .i64 0) := (blk_cell BK156.out 1).trans rfl
              have hcz15_2 : w8.cell? ⟨gb156, 2, none⟩ = some (.int .i64 0) := (blk_cell BK156.out 2).trans rfl
              have hcz15_3 : w8.cell? ⟨gb156, 3, none⟩ = some (.int .i64 0) := (blk_cell BK156.out 3).trans rfl
              have hcz15_4 : w8.cell? ⟨gb156, 4, none⟩ = some (.int .i64 0) := (blk_cell BK156.out 4).trans rfl
              have hfz15_0 := blk_frozen BK156.out 0
              have hfz15_1 := blk_frozen BK156.out 1
              have hfz15_2 := blk_frozen BK156.out 2
              have hfz15_3 := blk_frozen BK156.out 3
              have hfz15_4 := blk_frozen BK156.out 4
              go_wp2_with (first | ((with_reducible refine gate_callee (f := 6) rfl ?_); refine goesL_ (some 32) rfl rfl Try.func6 (by kernel_rfl) rfl #[.agg #[.slice A155_0 ((rd_T27 l0 x3_1).f0).length c155_0, .int .i64 ((rd_T27 l0 x3_1).f1), .int .i64 ((rd_T27 l0 x3_1).f2.f0), .int .i64 ((rd_T27 l0 x3_1).f2.f1), .int .i64 ((rd_T27 l0 x3_1).f2.f2)]] rfl (by (try simp only [List.map_toArray, List.map_cons, List.map_nil]); first | done | rfl | (simp only [List.length_drop, List.length_take]; rfl)) ?_; (with_reducible refine (gimballaw13_may.calls kj1 _ _ ((rd_T27 l0 x3_1).f0) ((rd_T27 l0 x3_1).f1) ((rd_T27 l0 x3_1).f2.f0) ((rd_T27 l0 x3_1).f2.f1) ((rd_T27 l0 x3_1).f2.f2) false _ ?side1 ?side2 A10.out).mono ?_); (case side1 => exact Kd.C_below HR155_0.out (by repeat (first | (with_reducible first | exact HB.out | apply below_alloc | apply pw_below_drewN | apply below_drew1 | refine below_set ?_ GE156.out) | exact HB.out))); (case side2 => exact HC155_0.out); rintro e w16 ⟨rfl, hb⟩; refine ⟨_, rfl, ?_⟩; have n0_ := Aside0.mk (blk_below (g := gb156) (o := .cells #[.slice A155_0 ((rd_T27 l0 x3_1).f0).length c155_0, .int .i64 ((rd_T27 l0 x3_1).f1), .int .i64 ((rd_T27 l0 x3_1).f2.f0), .int .i64 ((rd_T27 l0 x3_1).f2.f1), .int .i64 ((rd_T27 l0 x3_1).f2.f2)] 27 (0, 0)) (by (with_reducible repeat (first | refine blk_drewN ?_ _ | refine blk_drew ?_ | refine blk_alloc ?_ _)); refine blk_put (cs := #[.slice A155_0 ((rd_T27 l0 x3_1).f0).length c155_0, .int .i64 ((rd_T27 l0 x3_1).f1), .int .i64 ((rd_T27 l0 x3_1).f2.f0), .int .i64 ((rd_T27 l0 x3_1).f2.f1), .int .i64 0]) ?_ 4 _ rfl; (with_reducible repeat (first | refine blk_drewN ?_ _ | refine blk_drew ?_ | refine blk_alloc ?_ _)); refine blk_put (cs := #[.slice A155_0 ((rd_T27 l0 x3_1).f0).length c155_0, .int .i64 ((rd_T27 l0 x3_1).f1), .int .i64 ((rd_T27 l0 x3_1).f2.f0), .int .i64 0, .int .i64 0]) ?_ 3 _ rfl; (with_reducible repeat (first | refine blk_drewN ?_ _ | refine blk_drew ?_ | refine blk_alloc ?_ _)); refine blk_put (cs := #[.slice A155_0 ((rd_T27 l0 x3_1).f0).length c155_0, .int .i64 ((rd_T27 l0 x3_1).f1), .int .i64 0, .int .i64 0, .int .i64 0]) ?_ 2 _ rfl; (with_reducible repeat (first | refine blk_drewN ?_ _ | refine blk_drew ?_ | refine blk_alloc ?_ _)); refine blk_put (cs := #[.slice A155_0 ((rd_T27 l0 x3_1).f0).length c155_0, .int .i64 0, .int .i64 0, .int .i64 0, .int .i64 0]) ?_ 1 _ rfl; (with_reducible repeat (first | refine blk_drewN ?_ _ | refine blk_drew ?_ | refine blk_alloc ?_ _)); refine blk_put (cs := #[.slice none 0 0, .int .i64 0, .int .i64 0, .int .i64 0, .int .i64 0]) ?_ 0 _ rfl; (with_reducible repeat (first | refine blk_drewN ?_ _ | refine blk_drew ?_ | refine blk_alloc ?_ _)); exact BK156.out) hb); have n1_ := Aside0.mk (below_step (by repeat (first | (with_reducible first | exact HB.out | apply below_alloc | apply pw_below_drewN | apply below_drew1 | refine below_set ?_ GE156.out) | exact HB.out)) hb); clear BK156; clear HB; have BK156 := n0_; have HB := n1_; clear n0_ n1_; (try clear hb); (try clear hb2); (try clear hk); (try clear hi)))
              go_meet
              case rel => exact ⟨_, (true), (by first | rfl | (simp; done) | (simp [*]; done)), H', ⟨by have := HK1.out; have := HJ1.out; first | omega | exact Nat.le_refl _⟩, ⟨by (with_reducible repeat (first | refine blk_drewN ?_ _ | refine blk_drew ?_ | refine blk_alloc ?_ _)); exact BK156.out⟩, ⟨by repeat (first | (with_reducible first | exact HB.out | apply below_alloc | apply pw_below_drewN | apply below_drew1 | refine below_set ?_ GE156.out) | exact HB.out)⟩⟩
            case rest =>
              clear HC7
              try clear c1
              try clear p1
              try clear q1
              try clear hx1
              try clear p2
              try clear c3
              try clear c3b0
              try clear c4
              try clear c5
              try clear c5b0
              try clear c6
              try clear c6b0
              try clear p6
              try clear c11
              try clear c15
              try clear p15
              try clear q15
              try clear hx15
              try clear hcz12_0
              try clear hcz12_1
              try clear hcz12_2
              try clear hcz12_3
              try clear hcz12_4
              try clear hcz14_0
              try clear hcz14_1
              try clear hcz14_2
              try clear hcz14_3
              try clear hcz14_4
              try clear hcz15_0
              try clear hcz15_1
              try clear hcz15_2
              try clear hcz15_3
              try clear hcz15_4
              try clear hcz9_0
              try clear hcz9_1
              try clear hcz9_2
              try clear hcz9_3
              try clear hcz9_4
              try clear hfz12_0
              try clear hfz12_1
              try clear hfz12_2
              try clear hfz12_3
              try clear hfz12_4
              try clear hfz14_0
              try clear hfz14_1
              try clear hfz14_2
              try clear hfz14_3
              try clear hfz14_4
              try clear hfz15_0
              try clear hfz15_1
              try clear hfz15_2
              try clear hfz15_3
              try clear hfz15_4
              try clear hfz9_0
              try clear hfz9_1
              try clear hfz9_2
              try clear hfz9_3
              try clear hfz9_4
              try clear hx155_0
              try clear hx155_1
              try clear hx155_2
              try clear hx155_3
              try clear hx155_4
              try clear p155
              try clear p2
              try clear q155
              obtain ⟨kq, x42_6, rfl, HA, HJ6, BK156, HB⟩ := hcut
              cases kq with
              | zero => exact absurd HA.out (by simp [gimballaw13_MedianMiddle.j2])
              | succ kj6 =>
                have H := HA.out
                clear HA
                simp only [gimballaw13_MedianMiddle.j2] at H
                by_cases c17 : x42_6 = true
                · subst c17
                  have H1 : (gimballaw13_MedianMiddle.l0 kj6 l0 (wrap64 (x3_1 + 1))) = some r := by rw [if_pos rfl] at H; exact H
                  clear H
                  have H := H1
                  clear H1
                  have H' := Aside0.mk H
                  clear H
                  go_wp2
                  go_roundg kj6
                  case measure => have := HK1.out; have := HJ1.out; have := HJ6.out; omega
                  case rel => exact ⟨(wrap64 (x3_1 + 1)), (by first | rfl | (simp; done) | (simp [*]; done)), H', ⟨by have := HK1.out; have := HJ1.out; have := HJ6.out; omega⟩, ⟨by repeat (first | (with_reducible first | exact HB.out | apply below_alloc | apply pw_below_drewN | apply below_drew1 | refine below_set ?_ GE156.out) | exact HB.out)⟩⟩
                replace c17 := Bool.eq_false_iff.mpr c17
                subst c17
                have H1 : (if 0 ≤ (wrap64 ((((rd_T27 l0 x3_1).f0).length : Int) - (wrap64 (((rd_T27 l0 x3_1).f1) - 1)))) then (if (wrap64 ((((rd_T27 l0 x3_1).f0).length : Int) - (wrap64 (((rd_T27 l0 x3_1).f1) - 1)))) ≤ (((rd_T27 l0 x3_1).f0).length : Int) then ((median_Take.f kj6 (((rd_T27 l0 x3_1).f0).drop ((wrap64 ((((rd_T27 l0 x3_1).f0).length : Int) - (wrap64 (((rd_T27 l0 x3_1).f1) - 1)))) : Int).toNat) ((rd_T27 l0 x3_1).f1) ((rd_T27 l0 x3_1).f2.f0) ((rd_T27 l0 x3_1).f2.f1) ((rd_T27 l0 x3_1).f2.f2)).bind fun bt162 => ((gimballaw13_num.f bt162.2.2.2.2).bind fun t170 => (if t170 = 0 then (gimballaw13_MedianMiddle.j3 kj6 l0 x3_1 bt162.1 ((bt162.1.length : Int) != ((rd_T27 l0 x3_1).f1)) ((rd_T27 l0 x3_1).f0) ((rd_T27 l0 x3_1).f1) ((rd_T27 l0 x3_1).f2.f0) ((rd_T27 l0 x3_1).f2.f1) ((rd_T27 l0 x3_1).f2.f2) bt162.2.1 bt162.2.2.1 bt162.2.2.2.1) else (gimballaw13_MedianMiddle.j3 kj6 l0 x3_1 bt162.1 true ((rd_T27 l0 x3_1).f0) ((rd_T27 l0 x3_1).f1) ((rd_T27 l0 x3_1).f2.f0) ((rd_T27 l0 x3_1).f2.f1) ((rd_T27 l0 x3_1).f2.f2) bt162.2.1 bt162.2.2.1 bt162.2.2.2.1)))) else (none)) else (none)) = some r := by rw [if_neg (show ¬ (false = true) by decide)] at H; exact H
                clear H
                have H := H1
                clear H1
                obtain ⟨ji18, hji18⟩ : ∃ j_ : Int, (wrap64 ((((rd_T27 l0 x3_1).f0).length : Int) - (wrap64 (((rd_T27 l0 x3_1).f1) - 1)))) = j_ := ⟨_, rfl⟩
                replace H : (if 0 ≤ (ji18) then (if (ji18) ≤ (((rd_T27 l0 x3_1).f0).length : Int) then ((median_Take.f kj6 (((rd_T27 l0 x3_1).f0).drop ((ji18) : Int).toNat) ((rd_T27 l0 x3_1).f1) ((rd_T27 l0 x3_1).f2.f0) ((rd_T27 l0 x3_1).f2.f1) ((rd_T27 l0 x3_1).f2.f2)).bind fun bt162 => ((gimballaw13_num.f bt162.2.2.2.2).bind fun t170 => (if t170 = 0 then (gimballaw13_MedianMiddle.j3 kj6 l0 x3_1 bt162.1 ((bt162.1.length : Int) != ((rd_T27 l0 x3_1).f1)) ((rd_T27 l0 x3_1).f0) ((rd_T27 l0 x3_1).f1) ((rd_T27 l0 x3_1).f2.f0) ((rd_T27 l0 x3_1).f2.f1) ((rd_T27 l0 x3_1).f2.f2) bt162.2.1 bt162.2.2.1 bt162.2.2.2.1) else (gimballaw13_MedianMiddle.j3 kj6 l0 x3_1 bt162.1 true ((rd_T27 l0 x3_1).f0) ((rd_T27 l0 x3_1).f1) ((rd_T27 l0 x3_1).f2.f0) ((rd_T27 l0 x3_1).f2.f1) ((rd_T27 l0 x3_1).f2.f2) bt162.2.1 bt162.2.2.1 bt162.2.2.2.1)))) else (none)) else (none)) = some r := by first | (rw [hji18] at H; exact H) | (simp only [hji18] at H ⊢; exact H)
                have hji18w : (IntKind.i64.wrap ((((rd_T27 l0 x3_1).f0).length : Int) - (wrap64 (((rd_T27 l0 x3_1).f1) - 1)))) = ji18 := (i64_w _).trans hji18
                by_cases c19 : 0 ≤ (ji18)
                rotate_left
                · rw [if_neg c19] at H
                  exact absurd H (by simp)
                rw [if_pos c19] at H
                have c19b0 := eq_true c19
                have c19b1 : decide (0 ≤ (ji18)) = true := decide_eq_true c19
                clear c19
                by_cases c20 : (ji18) ≤ (((rd_T27 l0 x3_1).f0).length : Int)
                rotate_left
                · rw [if_neg c20] at H
                  exact absurd H (by simp)
                rw [if_pos c20] at H
                have c20b0 := eq_true c20
                have c20b1 : decide ((ji18) ≤ (((rd_T27 l0 x3_1).f0).length : Int)) = true := decide_eq_true c20
                clear c20
                obtain ⟨y158, hy158⟩ : ∃ y_ : List (S25), y_ = (((rd_T27 l0 x3_1).f0).drop ((ji18) : Int).toNat) := ⟨_, rfl⟩
                replace H : ((median_Take.f kj6 y158 ((rd_T27 l0 x3_1).f1) ((rd_T27 l0 x3_1).f2.f0) ((rd_T27 l0 x3_1).f2.f1) ((rd_T27 l0 x3_1).f2.f2)).bind fun bt162 => ((gimballaw13_num.f bt162.2.2.2.2).bind fun t170 => (if t170 = 0 then (gimballaw13_MedianMiddle.j3 kj6 l0 x3_1 bt162.1 ((bt162.1.length : Int) != ((rd_T27 l0 x3_1).f1)) ((rd_T27 l0 x3_1).f0) ((rd_T27 l0 x3_1).f1) ((rd_T27 l0 x3_1).f2.f0) ((rd_T27 l0 x3_1).f2.f1) ((rd_T27 l0 x3_1).f2.f2) bt162.2.1 bt162.2.2.1 bt162.2.2.2.1) else (gimballaw13_MedianMiddle.j3 kj6 l0 x3_1 bt162.1 true ((rd_T27 l0 x3_1).f0) ((rd_T27 l0 x3_1).f1) ((rd_T27 l0 x3_1).f2.f0) ((rd_T27 l0 x3_1).f2.f1) ((rd_T27 l0 x3_1).f2.f2) bt162.2.1 bt162.2.2.1 bt162.2.2.2.1)))) = some r := by first | (rw [hy158]; with_reducible exact H) | (have H2_ := (Option.bind_some _ _).symm.trans H; rw [hy158]; with_reducible exact H2_) | (have H2_ := (Option.bind_some _ _).symm.trans H; with_reducible exact H2_) | with_reducible exact H | (rw [hy158]; exact H) | exact H
                have Ny158 := Aside0.mk hy158
                clear hy158
                replace H := Option.bind_eq_some_iff.mp H
                obtain ⟨⟨t162, t165, t166, t167, t168⟩, A210, H⟩ := H
                replace H : ((gimballaw13_num.f t168).bind fun t170 => (if t170 = 0 then (gimballaw13_MedianMiddle.j3 kj6 l0 x3_1 t162 ((t162.length : Int) != ((rd_T27 l0 x3_1).f1)) ((rd_T27 l0 x3_1).f0) ((rd_T27 l0 x3_1).f1) ((rd_T27 l0 x3_1).f2.f0) ((rd_T27 l0 x3_1).f2.f1) ((rd_T27 l0 x3_1).f2.f2) t165 t166 t167) else (gimballaw13_MedianMiddle.j3 kj6 l0 x3_1 t162 true ((rd_T27 l0 x3_1).f0) ((rd_T27 l0 x3_1).f1) ((rd_T27 l0 x3_1).f2.f0) ((rd_T27 l0 x3_1).f2.f1) ((rd_T27 l0 x3_1).f2.f2) t165 t166 t167))) = some r := H
                have A21 := Aside0.mk A210
                clear A210
                have HC22 := Aside0.mk H
                clear H
                try go_wp2
                have n0_ := Aside0.mk (blk_drew BK156.out)
                have n1_ := Aside0.mk (below_drew1 HB.out)
                clear BK156
                clear HB
                have BK156 := n0_
                have HB := n1_
                clear n0_ n1_
                have q24 : ((ji18) : Int) ≤ ((((rd_T27 l0 x3_1).f0).length : Int) : Int) := of_decide_eq_true (by first | (with_reducible assumption) | assumption)
                obtain ⟨i024, hi024, _, hsz24, _⟩ := info_parts info25
                have hroom24 : ((rd_T27 l0 x3_1).f0).length ≤ c155_0 := HC155_0.out
                have hC24 : Kd.C k25 _ A155_0 ((rd_T27 l0 x3_1).f0).length ((rd_T27 l0 x3_1).f0) := HR155_0.out
                have q024 : (0 : Int) ≤ ((ji18) : Int) := of_decide_eq_true (by first | (with_reducible assumption) | assumption)
                have hcut24 := cut_from (P := Try.prog) 23 25 .i64 Try.underlying23 hi024 3 hsz24 A155_0 ((rd_T27 l0 x3_1).f0).length c155_0 (ji18) q024 q24
                have hr24 := Kd.C_drop (m := ((ji18) : Int).toNat) (c := c155_0) hC24 (by omega) hroom24
                obtain ⟨A24, hA24⟩ : ∃ A1, A1 = (if c155_0 = ((ji18) : Int).toNat then A155_0 else (A155_0 : Option Addr).map (·.add (((ji18) : Int).toNat * 3))) := ⟨_, rfl⟩
                obtain ⟨c24, hc24⟩ : ∃ c1, c1 = c155_0 - ((ji18) : Int).toNat := ⟨_, rfl⟩
                have hy24 : y158.length = ((rd_T27 l0 x3_1).f0).length - ((ji18) : Int).toNat := (by rw [Ny158.out, List.length_drop] <;> omega)
                rw [show (((rd_T27 l0 x3_1).f0)).drop ((ji18) : Int).toNat = y158 from Ny158.out.symm] at hr24
                replace hr24 : Kd.C k25 _ A24 y158.length y158 := (by rw [hA24]; exact hr24)
                rw [← hy24, ← hA24, ← hc24] at hcut24
                have HR161 := Aside0.mk hr24
                have HC161 := Aside0.mk (show y158.length ≤ c24 from by rw [hy24, hc24]; exact Nat.sub_le_sub_right hroom24 _)
                clear hr24 hC24 hroom24 hi024 hsz24 hc24
                have KY24 := Aside0.mk hy24
                have KA24 := Aside0.mk hA24
                clear hy24 hA24
                replace q24 := eq_true q24
                refine start_ (n := 23) (S := fun w' => w'.cell? ⟨gb156, 0, none⟩ = some (.slice A155_0 ((rd_T27 l0 x3_1).f0).length c155_0) ∧ w'.cell? ⟨gb156, 1, none⟩ = some (.int .i64 ((rd_T27 l0 x3_1).f1)) ∧ w'.cell? ⟨gb156, 2, none⟩ = some (.int .i64 ((rd_T27 l0 x3_1).f2.f0)) ∧ w'.cell? ⟨gb156, 3, none⟩ = some (.int .i64 ((rd_T27 l0 x3_1).f2.f1)) ∧ w'.cell? ⟨gb156, 4, none⟩ = some (.int .i64 ((rd_T27 l0 x3_1).f2.f2))) (ds := []) #[false, false, false, false, false, false, false, false, false, false, false, false, false, false, false, false, false, false, false, false, false, false, false] (by kernel_rfl) rfl rfl ⟨(blk_cell BK156.out 0).trans rfl, (blk_cell BK156.out 1).trans rfl, (blk_cell BK156.out 2).trans rfl, (blk_cell BK156.out 3).trans rfl, (blk_cell BK156.out 4).trans rfl⟩ (fun hHeld => ?_); refine with_tabW gimballaw13_MedianMiddle.tab6 gimballaw13_MedianMiddle.bits6 (fun HT_ HW_ => ?_)
                generalize wc.drew = w23 at BK156 HB HR161 hHeld ⊢
                refine pure_ (i := 0) (N := some 44) (v := ?_) (a' := ?_) #[true, false, false, false, false, false, false, false, false, false, false, false, false, false, false, false, false, false, false, false, false, false, false] rfl rfl (any_of HT_.out (by kernel_rfl)) (fun _ _ _ h => h) (Or.inl ⟨by rfl, ?_⟩) ?_ ?_
                rotate_left
                · intro w'
                  go_simp
                  with_reducible rfl
                rotate_left
                · simp only [Act.put, List.setIfInBounds_toArray, List.set_cons_zero, List.set_cons_succ, i64_w, i32_w]
                  rfl
                refine pure_ (i := 2) (N := some 46) (v := ?_) (a' := ?_) #[true, false, true, false, false, false, false, false, false, false, false, false, false, false, false, false, false, false, false, false, false, false, false] rfl rfl (any_of HT_.out (by kernel_rfl)) (fun _ _ _ h => h) (Or.inl ⟨by rfl, ?_⟩) ?_ ?_
                rotate_left
                · intro w'
                  go_simp
                  with_reducible rfl
                rotate_left
                · simp only [Act.put, List.setIfInBounds_toArray, List.set_cons_zero, List.set_cons_succ, i64_w, i32_w]
                  rfl
                refine pure_ (i := 5) (N := some 49) (v := ?_) (a' := ?_) #[true, false, true, false, false, true, false, false, false, false, false, false, false, false, false, false, false, false, false, false, false, false, false] rfl rfl (any_of HT_.out (by kernel_rfl)) (fun _ _ _ h => h) (Or.inl ⟨by rfl, ?_⟩) ?_ ?_
                rotate_left
                · intro w'
                  go_simp
                  with_reducible rfl
                rotate_left
                · simp only [Act.put, List.setIfInBounds_toArray, List.set_cons_zero, List.set_cons_succ, i64_w, i32_w]
                  rfl
                refine pure_ (i := 10) (N := some 54) (v := ?_) (a' := ?_) #[true, false, true, false, false, true, false, false, false, false, true, false, false, false, false, false, false, false, false, false, false, false, false] rfl rfl (any_of HT_.out (by kernel_rfl)) (fun _ _ _ h => h) (Or.inl ⟨by rfl, ?_⟩) ?_ ?_
                rotate_left
                · intro w'
                  go_simp
                  with_reducible rfl
                rotate_left
                · simp only [Act.put, List.setIfInBounds_toArray, List.set_cons_zero, List.set_cons_succ, i64_w, i32_w]
                  rfl
                refine pure_ (i := 12) (N := some 56) (v := ?_) (a' := ?_) #[true, false, true, false, false, true, false, false, false, false, true, false, true, false, false, false, false, false, false, false, false, false, false] rfl rfl (any_of HT_.out (by kernel_rfl)) (fun _ _ _ h => h) (Or.inl ⟨by rfl, ?_⟩) ?_ ?_
                rotate_left
                · intro w'
                  go_simp
                  with_reducible rfl
                rotate_left
                · simp only [Act.put, List.setIfInBounds_toArray, List.set_cons_zero, List.set_cons_succ, i64_w, i32_w]
                  rfl
                refine take_ (i := 1) (N := some 45) (v := ?_) (a' := ?_) #[true, true, true, false, false, true, false, false, false, false, true, false, true, false, false, false, false, false, false, false, false, false, false] rfl rfl (take_ofW HT_.out HW_.out (by kernel_rfl)) (fun _ _ _ h => h) (Or.inl ⟨by rfl, ?_⟩) hHeld ?_ ?_
                rotate_left
                · rintro w' ⟨s0, s1, s2, s3, s4⟩
                  go_simp
                  with_reducible rfl
                rotate_left
                · simp only [Act.put, List.setIfInBounds_toArray, List.set_cons_zero, List.set_cons_succ, i64_w, i32_w]
                  rfl
                refine take_ (i := 3) (N := some 47) (v := ?_) (a' := ?_) #[true, true, true, true, false, true, false, false, false, false, true, false, true, false, false, false, false, false, false, false, false, false, false] rfl rfl (take_ofW HT_.out HW_.out (by kernel_rfl)) (fun _ _ _ h => h) (Or.inl ⟨by rfl, ?_⟩) hHeld ?_ ?_
                rotate_left
                · rintro w' ⟨s0, s1, s2, s3, s4⟩
                  go_simp
                  with_reducible rfl
                rotate_left
                · simp only [Act.put, List.setIfInBounds_toArray, List.set_cons_zero, List.set_cons_succ, i64_w, i32_w]
                  rfl
                refine pure_ (i := 4) (N := some 48) (v := ?_) (a' := ?_) #[true, true, true, true, true, true, false, false, false, false, true, false, true, false, false, false, false, false, false, false, false, false, false] rfl rfl (any_of HT_.out (by kernel_rfl)) (fun _ _ _ h => h) (Or.inl ⟨by rfl, ?_⟩) ?_ ?_
                rotate_left
                · intro w'
                  go_simp
                  with_reducible rfl
                rotate_left
                · simp only [Act.put, List.setIfInBounds_toArray, List.set_cons_zero, List.set_cons_succ, i64_w, i32_w]
                  rfl
                refine take_ (i := 6) (N := some 50) (v := ?_) (a' := ?_) #[true, true, true, true, true, true, true, false, false, false, true, false, true, false, false, false, false, false, false, false, false, false, false] rfl rfl (take_ofW HT_.out HW_.out (by kernel_rfl)) (fun _ _ _ h => h) (Or.inl ⟨by rfl, ?_⟩) hHeld ?_ ?_
                rotate_left
                · rintro w' ⟨s0, s1, s2, s3, s4⟩
                  go_simp
                  with_reducible rfl
                rotate_left
                · simp only [Act.put, List.setIfInBounds_toArray, List.set_cons_zero, List.set_cons_succ, i64_w, i32_w]
                  rfl
                refine pure_ (i := 7) (N := some 51) (v := ?_) (a' := ?_) #[true, true, true, true, true, true, true, true, false, false, true, false, true, false, false, false, false, false, false, false, false, false, false] rfl rfl (any_of HT_.out (by kernel_rfl)) (fun _ _ _ h => h) (Or.inl ⟨by rfl, ?_⟩) ?_ ?_
                rotate_left
                · intro w'
                  go_simp
                  with_reducible rfl
                rotate_left
                · simp only [Act.put, List.setIfInBounds_toArray, List.set_cons_zero, List.set_cons_succ, i64_w, i32_w]
                  rfl
                refine pure_ (i := 8) (N := some 52) (v := ?_) (a' := ?_) #[true, true, true, true, true, true, true, true, true, false, true, false, true, false, false, false, false, false, false, false, false, false, false] rfl rfl (any_of HT_.out (by kernel_rfl)) (fun _ _ _ h => h) (Or.inl ⟨by rfl, ?_⟩) ?_ ?_
                rotate_left
                · intro w'
                  go_simp
                  with_reducible rfl
                rotate_left
                · simp only [Act.put, List.setIfInBounds_toArray, List.set_cons_zero, List.set_cons_succ, i64_w, i32_w]
                  rfl
                refine pure_ (i := 9) (N := some 53) (v := ?_) (a' := ?_) #[true, true, true, true, true, true, true, true, true, true, true, false, true, false, false, false, false, false, false, false, false, false, false] rfl rfl (any_of HT_.out (by kernel_rfl)) (fun _ _ _ h => h) (Or.inl ⟨by rfl, ?_⟩) ?_ ?_
                rotate_left
                · intro w'
                  go_simp
                  with_reducible rfl
                rotate_left
                · simp only [Act.put, List.setIfInBounds_toArray, List.set_cons_zero, List.set_cons_succ, i64_w, i32_w]
                  rfl
                refine take_ (i := 11) (N := some 55) (v := ?_) (a' := ?_) #[true, true, true, true, true, true, true, true, true, true, true, true, true, false, false, false, false, false, false, false, false, false, false] rfl rfl (take_ofW HT_.out HW_.out (by kernel_rfl)) (fun _ _ _ h => h) (Or.inl ⟨by rfl, ?_⟩) hHeld ?_ ?_
                rotate_left
                · rintro w' ⟨s0, s1, s2, s3, s4⟩
                  go_simp
                  with_reducible rfl
                rotate_left
                · simp only [Act.put, List.setIfInBounds_toArray, List.set_cons_zero, List.set_cons_succ, i64_w, i32_w]
                  rfl
                refine take_ (i := 13) (N := some 57) (v := ?_) (a' := ?_) #[true, true, true, true, true, true, true, true, true, true, true, true, true, true, false, false, false, false, false, false, false, false, false] rfl rfl (take_ofW HT_.out HW_.out (by kernel_rfl)) (fun _ _ _ h => h) (Or.inl ⟨by rfl, ?_⟩) hHeld ?_ ?_
                rotate_left
                · rintro w' ⟨s0, s1, s2, s3, s4⟩
                  go_simp
                  with_reducible rfl
                rotate_left
                · simp only [Act.put, List.setIfInBounds_toArray, List.set_cons_zero, List.set_cons_succ, i64_w, i32_w]
                  rfl
                refine join_ (σ := Value × Nat) 3 #[true, true, true, true, true, true, true, true, true, true, true, true, true, true, true, true, true, true, true, true, false, false, false] (fun s_ => [(58, .tuple #[s_.1, .agg #[.int .i64 t165, .int .i64 t166, .int .i64 t167], .int .i64 t168]), (6, .pointer (some ⟨s_.2, 0, none⟩)), (43, .tuple #[s_.1, .agg #[.int .i64 t165, .int .i64 t166, .int .i64 t167], .int .i64 t168]), (59, s_.1), (60, .agg #[.int .i64 t165, .int .i64 t166, .int .i64 t167]), (61, .int .i64 t168)]) (fun s_ w' => (w'.cell? ⟨gb156, 0, none⟩ = some (.slice A155_0 ((rd_T27 l0 x3_1).f0).length c155_0) ∧ w'.cell? ⟨gb156, 1, none⟩ = some (.int .i64 ((rd_T27 l0 x3_1).f1)) ∧ w'.cell? ⟨gb156, 2, none⟩ = some (.int .i64 ((rd_T27 l0 x3_1).f2.f0)) ∧ w'.cell? ⟨gb156, 3, none⟩ = some (.int .i64 ((rd_T27 l0 x3_1).f2.f1)) ∧ w'.cell? ⟨gb156, 4, none⟩ = some (.int .i64 ((rd_T27 l0 x3_1).f2.f2))) ∧ (Kd.Q k25 25 w' w.heap.size (fun k_ => k_ ≠ s_.2) s_.1 t162) ∧ (w'.heap[gb156]? = some (.cells #[.slice A155_0 ((rd_T27 l0 x3_1).f0).length c155_0, .int .i64 ((rd_T27 l0 x3_1).f1), .int .i64 ((rd_T27 l0 x3_1).f2.f0), .int .i64 ((rd_T27 l0 x3_1).f2.f1), .int .i64 ((rd_T27 l0 x3_1).f2.f2)] 27 (0, 0))) ∧ (w'.heap[s_.2]? = some (.cells #[.int .i64 0, .int .i64 0, .int .i64 0] 25 (0, 0))) ∧ (w.heap.size ≤ s_.2) ∧ (w.heap.size ≤ s_.2) ∧ (gb156 ≠ s_.2) ∧ (s_.2 ≠ gb156) ∧ (Below w.heap.size w w')) ?_ ?_
                rotate_left
                · intro hCont
                  refine two_ (i := 14) (j := 19) (Ni := some 58) (Nj := some 6) #[true, true, true, true, true, true, true, true, true, true, true, true, true, true, true, false, false, false, false, false, false, false, false] #[true, true, true, true, true, true, true, true, true, true, true, true, true, true, false, false, false, false, false, true, false, false, false] rfl rfl rfl rfl (two_of HT_.out (by kernel_rfl)) (by decide) (by decide) (fun K hK => ?_) (fun K hK => ?_)
                  · skip
                    refine goes_ Try.func9 (by kernel_rfl) rfl #[.slice A24 y158.length c24, .int .i64 ((rd_T27 l0 x3_1).f1), .agg #[.int .i64 ((rd_T27 l0 x3_1).f2.f0), .int .i64 ((rd_T27 l0 x3_1).f2.f1), .int .i64 ((rd_T27 l0 x3_1).f2.f2)]] (by rfl) rfl rfl (by (try simp only [List.map_toArray, List.map_cons, List.map_nil]); first | done | rfl | (simp only [List.length_drop, List.length_take]; rfl)) ?_
                    with_reducible refine (median_Take.calls kj6 _ _ y158 ((rd_T27 l0 x3_1).f1) ((rd_T27 l0 x3_1).f2.f0) ((rd_T27 l0 x3_1).f2.f1) ((rd_T27 l0 x3_1).f2.f2) t162 t165 t166 t167 t168 _ ?side1 ?side2 A21.out).mono ?_
                    (case side1 => repeat (first | exact (Kd.C_below HR161.out HB.out) | (with_reducible refine Kd.C_alloc ?_ _) | (with_reducible refine Kd.C_drewN ?_ _) | (with_reducible refine Kd.C_drew ?_)))
                    (case side2 => exact HC161.out)
                    rintro e w25 ⟨v163, rfl, ho0, hb⟩
                    refine ⟨_, rfl, ?_⟩
                    have n0_ := Aside0.mk (Kd.Q_lower ho0 (below_size (by repeat (first | (with_reducible first | exact HB.out | apply below_alloc | apply pw_below_drewN | apply below_drew1 | refine below_set ?_ GE156.out) | exact HB.out))))
                    have n1_ := Aside0.mk (blk_below (g := gb156) (o := .cells #[.slice A155_0 ((rd_T27 l0 x3_1).f0).length c155_0, .int .i64 ((rd_T27 l0 x3_1).f1), .int .i64 ((rd_T27 l0 x3_1).f2.f0), .int .i64 ((rd_T27 l0 x3_1).f2.f1), .int .i64 ((rd_T27 l0 x3_1).f2.f2)] 27 (0, 0)) (by (with_reducible repeat (first | refine blk_drewN ?_ _ | refine blk_drew ?_ | refine blk_alloc ?_ _)); exact BK156.out) hb)
                    have n2_ := Aside0.mk (below_step (by repeat (first | (with_reducible first | exact HB.out | apply below_alloc | apply pw_below_drewN | apply below_drew1 | refine below_set ?_ GE156.out) | exact HB.out)) hb)
                    clear BK156
                    clear HB
                    have HO164 := n0_
                    have BK156 := n1_
                    have HB := n2_
                    clear n0_ n1_ n2_
                    (try clear hb)
                    (try clear hb2)
                    (try clear hk)
                    (try clear hi)
                    (try clear ho0)
                    refine hK.out _ _ ⟨(blk_cell BK156.out 0).trans rfl, (blk_cell BK156.out 1).trans rfl, (blk_cell BK156.out 2).trans rfl, (blk_cell BK156.out 3).trans rfl, (blk_cell BK156.out 4).trans rfl⟩ (fun hHeld => ?_)
                    clear hK K
                    refine norm_ (a' := ?_) ?_ ?_
                    rotate_left
                    · show Act.put _ (some 58) _ = _
                      simp only [Act.put, List.setIfInBounds_toArray, List.set_cons_zero, List.set_cons_succ, i64_w, i32_w]
                      rfl
                    refine pure_ (i := 15) (N := some 43) (v := ?_) (a' := ?_) #[true, true, true, true, true, true, true, true, true, true, true, true, true, true, true, true, false, false, false, false, false, false, false] rfl rfl (any_of HT_.out (by kernel_rfl)) (fun _ _ _ h => h) (Or.inl ⟨by rfl, ?_⟩) ?_ ?_
                    rotate_left
                    · intro w'
                      go_simp
                      with_reducible rfl
                    rotate_left
                    · simp only [Act.put, List.setIfInBounds_toArray, List.set_cons_zero, List.set_cons_succ, i64_w, i32_w]
                      rfl
                    refine pure_ (i := 16) (N := some 59) (v := ?_) (a' := ?_) #[true, true, true, true, true, true, true, true, true, true, true, true, true, true, true, true, true, false, false, false, false, false, false] rfl rfl (any_of HT_.out (by kernel_rfl)) (fun _ _ _ h => h) (Or.inl ⟨by rfl, ?_⟩) ?_ ?_
                    rotate_left
                    · intro w'
                      go_simp
                      with_reducible rfl
                    rotate_left
                    · simp only [Act.put, List.setIfInBounds_toArray, List.set_cons_zero, List.set_cons_succ, i64_w, i32_w]
                      rfl
                    refine pure_ (i := 17) (N := some 60) (v := ?_) (a' := ?_) #[true, true, true, true, true, true, true, true, true, true, true, true, true, true, true, true, true, true, false, false, false, false, false] rfl rfl (any_of HT_.out (by kernel_rfl)) (fun _ _ _ h => h) (Or.inl ⟨by rfl, ?_⟩) ?_ ?_
                    rotate_left
                    · intro w'
                      go_simp
                      with_reducible rfl
                    rotate_left
                    · simp only [Act.put, List.setIfInBounds_toArray, List.set_cons_zero, List.set_cons_succ, i64_w, i32_w]
                      rfl
                    refine pure_ (i := 18) (N := some 61) (v := ?_) (a' := ?_) #[true, true, true, true, true, true, true, true, true, true, true, true, true, true, true, true, true, true, true, false, false, false, false] rfl rfl (any_of HT_.out (by kernel_rfl)) (fun _ _ _ h => h) (Or.inl ⟨by rfl, ?_⟩) ?_ ?_
                    rotate_left
                    · intro w'
                      go_simp
                      with_reducible rfl
                    rotate_left
                    · simp only [Act.put, List.setIfInBounds_toArray, List.set_cons_zero, List.set_cons_succ, i64_w, i32_w]
                      rfl
                    refine one_ (i := 19) (N := some 6) #[true, true, true, true, true, true, true, true, true, true, true, true, true, true, true, true, true, true, true, true, false, false, false] rfl rfl (one_of HT_.out (by kernel_rfl)) (by decide) (fun K hK => ?_)
                    refine box_step ?hg (N := 6) ?hd (cs := #[.int .i64 0, .int .i64 0, .int .i64 0]) (t := 25) ?hr ?_; (case hd => rfl); (case hg => rfl); (case hr => first | (go_simp; done) | (go_simp; rfl))
                    intro gb169 hg w26 hbox hb
                    have n0_ := Aside0.mk (Kd.Q_below (Kd.Q_elderB (by (with_reducible repeat (first | apply Kd.Q_alloc | apply Kd.Q_drewN | apply Kd.Q_drew)); exact HO164.out) gb169 (Nat.le_of_eq hg.symm)) hb)
                    have n1_ := Aside0.mk (blk_below (g := gb156) (o := .cells #[.slice A155_0 ((rd_T27 l0 x3_1).f0).length c155_0, .int .i64 ((rd_T27 l0 x3_1).f1), .int .i64 ((rd_T27 l0 x3_1).f2.f0), .int .i64 ((rd_T27 l0 x3_1).f2.f1), .int .i64 ((rd_T27 l0 x3_1).f2.f2)] 27 (0, 0)) (by (with_reducible repeat (first | refine blk_drewN ?_ _ | refine blk_drew ?_ | refine blk_alloc ?_ _)); exact BK156.out) hb)
                    have n2_ := Aside0.mk (below_step (by repeat (first | (with_reducible first | exact HB.out | apply below_alloc | apply pw_below_drewN | apply below_drew1 | refine below_set ?_ GE156.out) | exact HB.out)) hb)
                    have n3_ := Aside0.mk (hbox)
                    have n4_ := Aside0.mk ((by rw [hg]; exact (below_size (by repeat (first | (with_reducible first | exact HB.out | apply below_alloc | apply pw_below_drewN | apply below_drew1 | refine below_set ?_ GE156.out) | exact HB.out))) : w.heap.size ≤ gb169))
                    have n5_ := Aside0.mk ((by rw [hg]; exact (below_size (by repeat (first | (with_reducible first | exact HB.out | apply below_alloc | apply pw_below_drewN | apply below_drew1 | refine below_set ?_ GE156.out) | exact HB.out))) : w.heap.size ≤ gb169))
                    have n6_ := Aside0.mk ((by rw [hg]; exact Nat.ne_of_lt (blk_lt (g := gb156) (o := .cells #[.slice A155_0 ((rd_T27 l0 x3_1).f0).length c155_0, .int .i64 ((rd_T27 l0 x3_1).f1), .int .i64 ((rd_T27 l0 x3_1).f2.f0), .int .i64 ((rd_T27 l0 x3_1).f2.f1), .int .i64 ((rd_T27 l0 x3_1).f2.f2)] 27 (0, 0)) (by (with_reducible repeat (first | refine blk_drewN ?_ _ | refine blk_drew ?_ | refine blk_alloc ?_ _)); exact BK156.out)) : gb156 ≠ gb169))
                    have n7_ := Aside0.mk ((by rw [hg]; exact Nat.ne_of_gt (blk_lt (g := gb156) (o := .cells #[.slice A155_0 ((rd_T27 l0 x3_1).f0).length c155_0, .int .i64 ((rd_T27 l0 x3_1).f1), .int .i64 ((rd_T27 l0 x3_1).f2.f0), .int .i64 ((rd_T27 l0 x3_1).f2.f1), .int .i64 ((rd_T27 l0 x3_1).f2.f2)] 27 (0, 0)) (by (with_reducible repeat (first | refine blk_drewN ?_ _ | refine blk_drew ?_ | refine blk_alloc ?_ _)); exact BK156.out)) : gb169 ≠ gb156))
                    clear HO164
                    clear BK156
                    clear HB
                    have HO164 := n0_
                    have BK156 := n1_
                    have HB := n2_
                    have BK169 := n3_
                    have GW169 := n4_
                    have GE169 := n5_
                    have NB156_169 := n6_
                    have NB169_156 := n7_
                    clear n0_ n1_ n2_ n3_ n4_ n5_ n6_ n7_
                    clear hb hbox hg
                    refine hK.out _ _ ⟨(blk_cell BK156.out 0).trans rfl, (blk_cell BK156.out 1).trans rfl, (blk_cell BK156.out 2).trans rfl, (blk_cell BK156.out 3).trans rfl, (blk_cell BK156.out 4).trans rfl⟩ (fun hHeld => ?_)
                    clear hK K
                    refine norm_ (a' := ?_) ?_ ?_
                    rotate_left
                    · show Act.put _ (some 6) _ = _
                      simp only [Act.put, List.setIfInBounds_toArray, List.set_cons_zero, List.set_cons_succ, i64_w, i32_w]
                      rfl
                    exact norm_ (by simp only [putAll, Act.put, List.setIfInBounds_toArray, List.set_cons_zero, List.set_cons_succ]) (hCont (v163, gb169) _ ⟨hHeld, (by (with_reducible repeat (first | apply Kd.Q_alloc | apply Kd.Q_drewN | apply Kd.Q_drew)); exact Kd.Q_mono HO164.out (fun _ hk => hk.2)), (by (with_reducible repeat (first | refine blk_drewN ?_ _ | refine blk_drew ?_ | refine blk_alloc ?_ _)); exact BK156.out), (by (with_reducible repeat (first | refine blk_drewN ?_ _ | refine blk_drew ?_ | refine blk_alloc ?_ _)); exact BK169.out), GW169.out, GE169.out, NB156_169.out, NB169_156.out, (by repeat (first | (with_reducible first | exact HB.out | apply below_alloc | apply pw_below_drewN | apply below_drew1 | refine below_set ?_ GE156.out | refine below_set ?_ GE169.out) | exact HB.out))⟩)
                  · skip
                    refine box_step ?hg (N := 6) ?hd (cs := #[.int .i64 0, .int .i64 0, .int .i64 0]) (t := 25) ?hr ?_; (case hd => rfl); (case hg => rfl); (case hr => first | (go_simp; done) | (go_simp; rfl))
                    intro gb169 hg w25 hbox hb
                    have n0_ := Aside0.mk (blk_below (g := gb156) (o := .cells #[.slice A155_0 ((rd_T27 l0 x3_1).f0).length c155_0, .int .i64 ((rd_T27 l0 x3_1).f1), .int .i64 ((rd_T27 l0 x3_1).f2.f0), .int .i64 ((rd_T27 l0 x3_1).f2.f1), .int .i64 ((rd_T27 l0 x3_1).f2.f2)] 27 (0, 0)) (by (with_reducible repeat (first | refine blk_drewN ?_ _ | refine blk_drew ?_ | refine blk_alloc ?_ _)); exact BK156.out) hb)
                    have n1_ := Aside0.mk (below_step (by repeat (first | (with_reducible first | exact HB.out | apply below_alloc | apply pw_below_drewN | apply below_drew1 | refine below_set ?_ GE156.out) | exact HB.out)) hb)
                    have n2_ := Aside0.mk (hbox)
                    have n3_ := Aside0.mk ((by rw [hg]; exact (below_size (by repeat (first | (with_reducible first | exact HB.out | apply below_alloc | apply pw_below_drewN | apply below_drew1 | refine below_set ?_ GE156.out) | exact HB.out))) : w.heap.size ≤ gb169))
                    have n4_ := Aside0.mk ((by rw [hg]; exact (below_size (by repeat (first | (with_reducible first | exact HB.out | apply below_alloc | apply pw_below_drewN | apply below_drew1 | refine below_set ?_ GE156.out) | exact HB.out))) : w.heap.size ≤ gb169))
                    have n5_ := Aside0.mk ((by rw [hg]; exact Nat.ne_of_lt (blk_lt (g := gb156) (o := .cells #[.slice A155_0 ((rd_T27 l0 x3_1).f0).length c155_0, .int .i64 ((rd_T27 l0 x3_1).f1), .int .i64 ((rd_T27 l0 x3_1).f2.f0), .int .i64 ((rd_T27 l0 x3_1).f2.f1), .int .i64 ((rd_T27 l0 x3_1).f2.f2)] 27 (0, 0)) (by (with_reducible repeat (first | refine blk_drewN ?_ _ | refine blk_drew ?_ | refine blk_alloc ?_ _)); exact BK156.out)) : gb156 ≠ gb169))
                    have n6_ := Aside0.mk ((by rw [hg]; exact Nat.ne_of_gt (blk_lt (g := gb156) (o := .cells #[.slice A155_0 ((rd_T27 l0 x3_1).f0).length c155_0, .int .i64 ((rd_T27 l0 x3_1).f1), .int .i64 ((rd_T27 l0 x3_1).f2.f0), .int .i64 ((rd_T27 l0 x3_1).f2.f1), .int .i64 ((rd_T27 l0 x3_1).f2.f2)] 27 (0, 0)) (by (with_reducible repeat (first | refine blk_drewN ?_ _ | refine blk_drew ?_ | refine blk_alloc ?_ _)); exact BK156.out)) : gb169 ≠ gb156))
                    clear BK156
                    clear HB
                    have BK156 := n0_
                    have HB := n1_
                    have BK169 := n2_
                    have GW169 := n3_
                    have GE169 := n4_
                    have NB156_169 := n5_
                    have NB169_156 := n6_
                    clear n0_ n1_ n2_ n3_ n4_ n5_ n6_
                    clear hb hbox hg
                    refine hK.out _ _ ⟨(blk_cell BK156.out 0).trans rfl, (blk_cell BK156.out 1).trans rfl, (blk_cell BK156.out 2).trans rfl, (blk_cell BK156.out 3).trans rfl, (blk_cell BK156.out 4).trans rfl⟩ (fun hHeld => ?_)
                    clear hK K
                    refine norm_ (a' := ?_) ?_ ?_
                    rotate_left
                    · show Act.put _ (some 6) _ = _
                      simp only [Act.put, List.setIfInBounds_toArray, List.set_cons_zero, List.set_cons_succ, i64_w, i32_w]
                      rfl
                    refine one_ (i := 14) (N := some 58) #[true, true, true, true, true, true, true, true, true, true, true, true, true, true, true, false, false, false, false, true, false, false, false] rfl rfl (one_of HT_.out (by kernel_rfl)) (by decide) (fun K hK => ?_)
                    refine goes_ Try.func9 (by kernel_rfl) rfl #[.slice A24 y158.length c24, .int .i64 ((rd_T27 l0 x3_1).f1), .agg #[.int .i64 ((rd_T27 l0 x3_1).f2.f0), .int .i64 ((rd_T27 l0 x3_1).f2.f1), .int .i64 ((rd_T27 l0 x3_1).f2.f2)]] (by rfl) rfl rfl (by (try simp only [List.map_toArray, List.map_cons, List.map_nil]); first | done | rfl | (simp only [List.length_drop, List.length_take]; rfl)) ?_
                    with_reducible refine (median_Take.calls kj6 _ _ y158 ((rd_T27 l0 x3_1).f1) ((rd_T27 l0 x3_1).f2.f0) ((rd_T27 l0 x3_1).f2.f1) ((rd_T27 l0 x3_1).f2.f2) t162 t165 t166 t167 t168 _ ?side1 ?side2 A21.out).mono ?_
                    (case side1 => repeat (first | exact (Kd.C_below HR161.out HB.out) | (with_reducible refine Kd.C_alloc ?_ _) | (with_reducible refine Kd.C_drewN ?_ _) | (with_reducible refine Kd.C_drew ?_)))
                    (case side2 => exact HC161.out)
                    rintro e w26 ⟨v163, rfl, ho0, hb⟩
                    refine ⟨_, rfl, ?_⟩
                    have n0_ := Aside0.mk (Kd.Q_lower (Kd.Q_newB ho0 (g := gb169) (o := .cells #[.int .i64 0, .int .i64 0, .int .i64 0] 25 (0, 0)) (by (with_reducible repeat (first | refine blk_drewN ?_ _ | refine blk_drew ?_ | refine blk_alloc ?_ _)); exact BK169.out)) (below_size (by repeat (first | (with_reducible first | exact HB.out | apply below_alloc | apply pw_below_drewN | apply below_drew1 | refine below_set ?_ GE156.out | refine below_set ?_ GE169.out) | exact HB.out))))
                    have n1_ := Aside0.mk (blk_below (g := gb156) (o := .cells #[.slice A155_0 ((rd_T27 l0 x3_1).f0).length c155_0, .int .i64 ((rd_T27 l0 x3_1).f1), .int .i64 ((rd_T27 l0 x3_1).f2.f0), .int .i64 ((rd_T27 l0 x3_1).f2.f1), .int .i64 ((rd_T27 l0 x3_1).f2.f2)] 27 (0, 0)) (by (with_reducible repeat (first | refine blk_drewN ?_ _ | refine blk_drew ?_ | refine blk_alloc ?_ _)); exact BK156.out) hb)
                    have n2_ := Aside0.mk (blk_below (g := gb169) (o := .cells #[.int .i64 0, .int .i64 0, .int .i64 0] 25 (0, 0)) (by (with_reducible repeat (first | refine blk_drewN ?_ _ | refine blk_drew ?_ | refine blk_alloc ?_ _)); exact BK169.out) hb)
                    have n3_ := Aside0.mk (below_step (by repeat (first | (with_reducible first | exact HB.out | apply below_alloc | apply pw_below_drewN | apply below_drew1 | refine below_set ?_ GE156.out | refine below_set ?_ GE169.out) | exact HB.out)) hb)
                    clear BK156
                    clear BK169
                    clear HB
                    have HO164 := n0_
                    have BK156 := n1_
                    have BK169 := n2_
                    have HB := n3_
                    clear n0_ n1_ n2_ n3_
                    (try clear hb)
                    (try clear hb2)
                    (try clear hk)
                    (try clear hi)
                    (try clear ho0)
                    refine hK.out _ _ ⟨(blk_cell BK156.out 0).trans rfl, (blk_cell BK156.out 1).trans rfl, (blk_cell BK156.out 2).trans rfl, (blk_cell BK156.out 3).trans rfl, (blk_cell BK156.out 4).trans rfl⟩ (fun hHeld => ?_)
                    clear hK K
                    refine norm_ (a' := ?_) ?_ ?_
                    rotate_left
                    · show Act.put _ (some 58) _ = _
                      simp only [Act.put, List.setIfInBounds_toArray, List.set_cons_zero, List.set_cons_succ, i64_w, i32_w]
                      rfl
                    refine pure_ (i := 15) (N := some 43) (v := ?_) (a' := ?_) #[true, true, true, true, true, true, true, true, true, true, true, true, true, true, true, true, false, false, false, true, false, false, false] rfl rfl (any_of HT_.out (by kernel_rfl)) (fun _ _ _ h => h) (Or.inl ⟨by rfl, ?_⟩) ?_ ?_
                    rotate_left
                    · intro w'
                      go_simp
                      with_reducible rfl
                    rotate_left
                    · simp only [Act.put, List.setIfInBounds_toArray, List.set_cons_zero, List.set_cons_succ, i64_w, i32_w]
                      rfl
                    refine pure_ (i := 16) (N := some 59) (v := ?_) (a' := ?_) #[true, true, true, true, true, true, true, true, true, true, true, true, true, true, true, true, true, false, false, true, false, false, false] rfl rfl (any_of HT_.out (by kernel_rfl)) (fun _ _ _ h => h) (Or.inl ⟨by rfl, ?_⟩) ?_ ?_
                    rotate_left
                    · intro w'
                      go_simp
                      with_reducible rfl
                    rotate_left
                    · simp only [Act.put, List.setIfInBounds_toArray, List.set_cons_zero, List.set_cons_succ, i64_w, i32_w]
                      rfl
                    refine pure_ (i := 17) (N := some 60) (v := ?_) (a' := ?_) #[true, true, true, true, true, true, true, true, true, true, true, true, true, true, true, true, true, true, false, true, false, false, false] rfl rfl (any_of HT_.out (by kernel_rfl)) (fun _ _ _ h => h) (Or.inl ⟨by rfl, ?_⟩) ?_ ?_
                    rotate_left
                    · intro w'
                      go_simp
                      with_reducible rfl
                    rotate_left
                    · simp only [Act.put, List.setIfInBounds_toArray, List.set_cons_zero, List.set_cons_succ, i64_w, i32_w]
                      rfl
                    refine pure_ (i := 18) (N := some 61) (v := ?_) (a' := ?_) #[true, true, true, true, true, true, true, true, true, true, true, true, true, true, true, true, true, true, true, true, false, false, false] rfl rfl (any_of HT_.out (by kernel_rfl)) (fun _ _ _ h => h) (Or.inl ⟨by rfl, ?_⟩) ?_ ?_
                    rotate_left
                    · intro w'
                      go_simp
                      with_reducible rfl
                    rotate_left
                    · simp only [Act.put, List.setIfInBounds_toArray, List.set_cons_zero, List.set_cons_succ, i64_w, i32_w]
                      rfl
                    exact norm_ (by simp only [putAll, Act.put, List.setIfInBounds_toArray, List.set_cons_zero, List.set_cons_succ]) (hCont (v163, gb169) _ ⟨hHeld, (by (with_reducible repeat (first | apply Kd.Q_alloc | apply Kd.Q_drewN | apply Kd.Q_drew)); exact Kd.Q_mono HO164.out (fun _ hk => hk.2)), (by (with_reducible repeat (first | refine blk_drewN ?_ _ | refine blk_drew ?_ | refine blk_alloc ?_ _)); exact BK156.out), (by (with_reducible repeat (first | refine blk_drewN ?_ _ | refine blk_drew ?_ | refine blk_alloc ?_ _)); exact BK169.out), GW169.out, GE169.out, NB156_169.out, NB169_156.out, (by repeat (first | (with_reducible first | exact HB.out | apply below_alloc | apply pw_below_drewN | apply below_drew1 | refine below_set ?_ GE156.out | refine below_set ?_ GE169.out) | exact HB.out))⟩)
                rintro ⟨v163, gb169⟩ w27 ⟨hS_, h0_, h1_, h2_, h3_, h4_, h5_, h6_, h7_⟩
                have n0_ : Aside0 (Kd.Q k25 25 w27 w.heap.size (fun k_ => k_ ≠ gb169) v163 t162) := ⟨h0_⟩
                have n1_ : Aside0 (w27.heap[gb156]? = some (.cells #[.slice A155_0 ((rd_T27 l0 x3_1).f0).length c155_0, .int .i64 ((rd_T27 l0 x3_1).f1), .int .i64 ((rd_T27 l0 x3_1).f2.f0), .int .i64 ((rd_T27 l0 x3_1).f2.f1), .int .i64 ((rd_T27 l0 x3_1).f2.f2)] 27 (0, 0))) := ⟨h1_⟩
                have n2_ : Aside0 (w27.heap[gb169]? = some (.cells #[.int .i64 0, .int .i64 0, .int .i64 0] 25 (0, 0))) := ⟨h2_⟩
                have n3_ : Aside0 (w.heap.size ≤ gb169) := ⟨h3_⟩
                have n4_ : Aside0 (w.heap.size ≤ gb169) := ⟨h4_⟩
                have n5_ : Aside0 (gb156 ≠ gb169) := ⟨h5_⟩
                have n6_ : Aside0 (gb169 ≠ gb156) := ⟨h6_⟩
                have n7_ : Aside0 (Below w.heap.size w w27) := ⟨h7_⟩
                clear BK156
                clear HB
                clear h0_ h1_ h2_ h3_ h4_ h5_ h6_ h7_
                have HO164 := n0_
                have BK156 := n1_
                have BK169 := n2_
                have GW169 := n3_
                have GE169 := n4_
                have NB156_169 := n5_
                have NB169_156 := n6_
                have HB := n7_
                clear n0_ n1_ n2_ n3_ n4_ n5_ n6_ n7_
                have hHeld : w27.cell? ⟨gb156, 0, none⟩ = some (.slice A155_0 ((rd_T27 l0 x3_1).f0).length c155_0) ∧ w27.cell? ⟨gb156, 1, none⟩ = some (.int .i64 ((rd_T27 l0 x3_1).f1)) ∧ w27.cell? ⟨gb156, 2, none⟩ = some (.int .i64 ((rd_T27 l0 x3_1).f2.f0)) ∧ w27.cell? ⟨gb156, 3, none⟩ = some (.int .i64 ((rd_T27 l0 x3_1).f2.f1)) ∧ w27.cell? ⟨gb156, 4, none⟩ = some (.int .i64 ((rd_T27 l0 x3_1).f2.f2)) := hS_
                refine norm_ (a' := ?_) ?_ ?_
                rotate_left
                · simp only [putAll, Act.put, List.setIfInBounds_toArray, List.set_cons_zero, List.set_cons_succ]
                  rfl
                refine pure_ (i := 20) (N := some 5) (v := ?_) (a' := ?_) #[true, true, true, true, true, true, true, true, true, true, true, true, true, true, true, true, true, true, true, true, true, false, false] rfl rfl (any_of HT_.out (by kernel_rfl)) (fun _ _ _ h => h) (Or.inl ⟨by rfl, ?_⟩) ?_ ?_
                rotate_left
                · intro w'
                  go_simp
                  with_reducible rfl
                rotate_left
                · simp only [Act.put, List.setIfInBounds_toArray, List.set_cons_zero, List.set_cons_succ, i64_w, i32_w]
                  rfl
                refine one_ (i := 21) (N := none) #[true, true, true, true, true, true, true, true, true, true, true, true, true, true, true, true, true, true, true, true, true, true, false] rfl rfl (one_of HT_.out (by kernel_rfl)) (by decide) (fun K hK => ?_)
                have hs28 : w27.cell? ⟨gb169, 0, none⟩ = some (.int .i64 0) := (blk_cell BK169.out 0).trans rfl
                have hfs28 := blk_frozen BK169.out 0
                have hns28_0 := NB156_169.out
                have hms28_0 := NB169_156.out
                have hs29 : w27.cell? ⟨gb169, 1, none⟩ = some (.int .i64 0) := (blk_cell BK169.out 1).trans rfl
                have hfs29 := blk_frozen BK169.out 1
                have hns29_0 := NB156_169.out
                have hms29_0 := NB169_156.out
                have hs30 : w27.cell? ⟨gb169, 2, none⟩ = some (.int .i64 0) := (blk_cell BK169.out 2).trans rfl
                have hfs30 := blk_frozen BK169.out 2
                have hns30_0 := NB156_169.out
                have hms30_0 := NB169_156.out
                refine skip_ (w1 := ?_) (by rfl) rfl ?_ ?_
                rotate_left
                · go_simp
                  rfl
                refine hK.out _ _ ⟨((cell_far (p := ⟨gb169, _, none⟩) NB156_169.out _).trans (((cell_far (p := ⟨gb169, _, none⟩) NB156_169.out _).trans (((cell_far (p := ⟨gb169, _, none⟩) NB156_169.out _).trans (hHeld.1)))))), ((cell_far (p := ⟨gb169, _, none⟩) NB156_169.out _).trans (((cell_far (p := ⟨gb169, _, none⟩) NB156_169.out _).trans (((cell_far (p := ⟨gb169, _, none⟩) NB156_169.out _).trans (hHeld.2.1)))))), ((cell_far (p := ⟨gb169, _, none⟩) NB156_169.out _).trans (((cell_far (p := ⟨gb169, _, none⟩) NB156_169.out _).trans (((cell_far (p := ⟨gb169, _, none⟩) NB156_169.out _).trans (hHeld.2.2.1)))))), ((cell_far (p := ⟨gb169, _, none⟩) NB156_169.out _).trans (((cell_far (p := ⟨gb169, _, none⟩) NB156_169.out _).trans (((cell_far (p := ⟨gb169, _, none⟩) NB156_169.out _).trans (hHeld.2.2.2.1)))))), ((cell_far (p := ⟨gb169, _, none⟩) NB156_169.out _).trans (((cell_far (p := ⟨gb169, _, none⟩) NB156_169.out _).trans (((cell_far (p := ⟨gb169, _, none⟩) NB156_169.out _).trans (hHeld.2.2.2.2))))))⟩ (fun hHeld => ?_)
                clear hK K
                refine pure_ (i := 22) (N := some 7) (v := ?_) (a' := ?_) #[true, true, true, true, true, true, true, true, true, true, true, true, true, true, true, true, true, true, true, true, true, true, true] rfl rfl (any_of HT_.out (by kernel_rfl)) (fun _ _ _ h => h) (Or.inl ⟨by rfl, ?_⟩) ?_ ?_
                rotate_left
                · intro w'
                  go_simp
                  with_reducible rfl
                rotate_left
                · simp only [Act.put, List.setIfInBounds_toArray, List.set_cons_zero, List.set_cons_succ, i64_w, i32_w]
                  rfl
                refine done_ (done_of HT_.out (by kernel_rfl)) ?_
                go_upto_region 7 with (fail)
                go_cut [71] (fun v71 wc => ∃ (kq : Nat) (x71_21 : Bool), v71 = .bool x71_21 ∧ Aside0 (gimballaw13_MedianMiddle.j3 kq l0 x3_1 t162 x71_21 ((rd_T27 l0 x3_1).f0) ((rd_T27 l0 x3_1).f1) ((rd_T27 l0 x3_1).f2.f0) ((rd_T27 l0 x3_1).f2.f1) ((rd_T27 l0 x3_1).f2.f2) t165 t166 t167 = some r) ∧ Aside0 (kq ≤ kj6) ∧ Aside0 (Kd.Q k25 25 wc w.heap.size (fun k_ => k_ ≠ gb169) v163 t162) ∧ Aside0 (wc.heap[gb156]? = some (.cells #[(.slice A155_0 ((rd_T27 l0 x3_1).f0).length c155_0), .int .i64 ((rd_T27 l0 x3_1).f1), .int .i64 ((rd_T27 l0 x3_1).f2.f0), .int .i64 ((rd_T27 l0 x3_1).f2.f1), .int .i64 ((rd_T27 l0 x3_1).f2.f2)] 27 (0, 0))) ∧ Aside0 (wc.heap[gb169]? = some (.cells #[.int .i64 t165, .int .i64 t166, .int .i64 t167] 25 (0, 0))) ∧ Aside0 (Below w.heap.size w wc))
                case first =>
                  have H := HC22.out
                  clear HC22
                  replace H := Option.bind_eq_some_iff.mp H
                  obtain ⟨t170, A310, H⟩ := H
                  replace H : (if t170 = 0 then (gimballaw13_MedianMiddle.j3 kj6 l0 x3_1 t162 ((t162.length : Int) != ((rd_T27 l0 x3_1).f1)) ((rd_T27 l0 x3_1).f0) ((rd_T27 l0 x3_1).f1) ((rd_T27 l0 x3_1).f2.f0) ((rd_T27 l0 x3_1).f2.f1) ((rd_T27 l0 x3_1).f2.f2) t165 t166 t167) else (gimballaw13_MedianMiddle.j3 kj6 l0 x3_1 t162 true ((rd_T27 l0 x3_1).f0) ((rd_T27 l0 x3_1).f1) ((rd_T27 l0 x3_1).f2.f0) ((rd_T27 l0 x3_1).f2.f1) ((rd_T27 l0 x3_1).f2.f2) t165 t166 t167)) = some r := H
                  have A31 := Aside0.mk A310
                  clear A310
                  by_cases c32 : t170 = 0
                  · rw [if_pos c32] at H
                    have c32b0 : (t170 == 0) = true := beq_iff_eq.mpr c32
                    have c32b1 : (t170 != 0) = false := bne_eq_false_iff_eq.mpr c32
                    clear c32
                    (first | rw [c32b0] | (simp only [i64_w, i32_w]; rw [c32b0]) | skip)
                    have H' := Aside0.mk H
                    clear H
                    go_wp2_with (first | ((with_reducible refine gate_callee (f := 10) rfl ?_); refine goesL_ (some 63) rfl rfl Try.func10 (by kernel_rfl) rfl #[.int .i64 t168] rfl (by (try simp only [List.map_toArray, List.map_cons, List.map_nil]); first | done | rfl | (simp only [List.length_drop, List.length_take]; rfl)) ?_; (with_reducible refine (gimballaw13_num.calls t168 t170 _ A31.out).mono ?_); rintro e w' ⟨rfl, ⟨nd, rfl⟩⟩; refine ⟨_, rfl, ?_⟩; obtain ⟨Ao33, co33, eo33, _⟩ := Kd.Q_slice HO164.out; subst eo33; have hnb34 := NB156_169.out; have hnc34 := NB169_156.out; have hcz35_0 : w27.cell? ⟨gb156, 0, none⟩ = some (.slice A155_0 ((rd_T27 l0 x3_1).f0).length c155_0) := (blk_cell BK156.out 0).trans rfl; have hcz35_1 : w27.cell? ⟨gb156, 1, none⟩ = some (.int .i64 ((rd_T27 l0 x3_1).f1)) := (blk_cell BK156.out 1).trans rfl; have hcz35_2 : w27.cell? ⟨gb156, 2, none⟩ = some (.int .i64 ((rd_T27 l0 x3_1).f2.f0)) := (blk_cell BK156.out 2).trans rfl; have hcz35_3 : w27.cell? ⟨gb156, 3, none⟩ = some (.int .i64 ((rd_T27 l0 x3_1).f2.f1)) := (blk_cell BK156.out 3).trans rfl; have hcz35_4 : w27.cell? ⟨gb156, 4, none⟩ = some (.int .i64 ((rd_T27 l0 x3_1).f2.f2)) := (blk_cell BK156.out 4).trans rfl; have hfz35_0 := blk_frozen BK156.out 0; have hfz35_1 := blk_frozen BK156.out 1; have hfz35_2 := blk_frozen BK156.out 2; have hfz35_3 := blk_frozen BK156.out 3; have hfz35_4 := blk_frozen BK156.out 4))
                    go_meet
                    case rel => exact ⟨_, (((t162.length : Int) != ((rd_T27 l0 x3_1).f1))), (by first | rfl | (simp; done) | (simp [*]; done)), H', ⟨by have := HK1.out; have := HJ1.out; have := HJ6.out; first | omega | exact Nat.le_refl _⟩, ⟨by (with_reducible repeat (first | apply Kd.Q_alloc | apply Kd.Q_drewN | apply Kd.Q_drew)); exact Kd.Q_mono (Kd.Q_far (p := ⟨gb169, 2, none⟩) (Kd.Q_far (p := ⟨gb169, 1, none⟩) (Kd.Q_far (p := ⟨gb169, 0, none⟩) (Kd.Q_mono HO164.out (fun k_ hk => (⟨hk, hk⟩ : _ ∧ k_ ≠ gb169))) (fun _ hk => hk.2) (.int .i64 t165)) (fun _ hk => hk.2) (.int .i64 t166)) (fun _ hk => hk.2) (.int .i64 t167)) (fun _ hk => hk.1)⟩, ⟨by (with_reducible repeat (first | refine blk_drewN ?_ _ | refine blk_drew ?_ | refine blk_alloc ?_ _)); refine blk_far ?_ NB156_169.out _; (with_reducible repeat (first | refine blk_drewN ?_ _ | refine blk_drew ?_ | refine blk_alloc ?_ _)); refine blk_far ?_ NB156_169.out _; (with_reducible repeat (first | refine blk_drewN ?_ _ | refine blk_drew ?_ | refine blk_alloc ?_ _)); refine blk_far ?_ NB156_169.out _; (with_reducible repeat (first | refine blk_drewN ?_ _ | refine blk_drew ?_ | refine blk_alloc ?_ _)); exact BK156.out⟩, ⟨by (with_reducible repeat (first | refine blk_drewN ?_ _ | refine blk_drew ?_ | refine blk_alloc ?_ _)); refine blk_put (cs := #[.int .i64 t165, .int .i64 t166, .int .i64 0]) ?_ 2 _ rfl; (with_reducible repeat (first | refine blk_drewN ?_ _ | refine blk_drew ?_ | refine blk_alloc ?_ _)); refine blk_put (cs := #[.int .i64 t165, .int .i64 0, .int .i64 0]) ?_ 1 _ rfl; (with_reducible repeat (first | refine blk_drewN ?_ _ | refine blk_drew ?_ | refine blk_alloc ?_ _)); refine blk_put (cs := #[.int .i64 0, .int .i64 0, .int .i64 0]) ?_ 0 _ rfl; (with_reducible repeat (first | refine blk_drewN ?_ _ | refine blk_drew ?_ | refine blk_alloc ?_ _)); exact BK169.out⟩, ⟨by repeat (first | (with_reducible first | exact HB.out | apply below_alloc | apply pw_below_drewN | apply below_drew1 | refine below_set ?_ GE156.out | refine below_set ?_ GE169.out) | exact HB.out)⟩⟩
                  rw [if_neg c32] at H
                  have c32b0 : (t170 == 0) = false := beq_eq_false_iff_ne.mpr c32
                  have c32b1 : (t170 != 0) = true := bne_iff_ne.mpr c32
                  (first | rw [c32b0] | (simp only [i64_w, i32_w]; rw [c32b0]) | skip)
                  have H' := Aside0.mk H
                  clear H
                  go_wp2_with (first | ((with_reducible refine gate_callee (f := 10) rfl ?_); refine goesL_ (some 63) rfl rfl Try.func10 (by kernel_rfl) rfl #[.int .i64 t168] rfl (by (try simp only [List.map_toArray, List.map_cons, List.map_nil]); first | done | rfl | (simp only [List.length_drop, List.length_take]; rfl)) ?_; (with_reducible refine (gimballaw13_num.calls t168 t170 _ A31.out).mono ?_); rintro e w' ⟨rfl, ⟨nd, rfl⟩⟩; refine ⟨_, rfl, ?_⟩))
                  go_meet
                  case rel => exact ⟨_, (true), (by first | rfl | (simp; done) | (simp [*]; done)), H', ⟨by have := HK1.out; have := HJ1.out; have := HJ6.out; first | omega | exact Nat.le_refl _⟩, ⟨by (with_reducible repeat (first | apply Kd.Q_alloc | apply Kd.Q_drewN | apply Kd.Q_drew)); exact Kd.Q_mono (Kd.Q_far (p := ⟨gb169, 2, none⟩) (Kd.Q_far (p := ⟨gb169, 1, none⟩) (Kd.Q_far (p := ⟨gb169, 0, none⟩) (Kd.Q_mono HO164.out (fun k_ hk => (⟨hk, hk⟩ : _ ∧ k_ ≠ gb169))) (fun _ hk => hk.2) (.int .i64 t165)) (fun _ hk => hk.2) (.int .i64 t166)) (fun _ hk => hk.2) (.int .i64 t167)) (fun _ hk => hk.1)⟩, ⟨by (with_reducible repeat (first | refine blk_drewN ?_ _ | refine blk_drew ?_ | refine blk_alloc ?_ _)); refine blk_far ?_ NB156_169.out _; (with_reducible repeat (first | refine blk_drewN ?_ _ | refine blk_drew ?_ | refine blk_alloc ?_ _)); refine blk_far ?_ NB156_169.out _; (with_reducible repeat (first | refine blk_drewN ?_ _ | refine blk_drew ?_ | refine blk_alloc ?_ _)); refine blk_far ?_ NB156_169.out _; (with_reducible repeat (first | refine blk_drewN ?_ _ | refine blk_drew ?_ | refine blk_alloc ?_ _)); exact BK156.out⟩, ⟨by (with_reducible repeat (first | refine blk_drewN ?_ _ | refine blk_drew ?_ | refine blk_alloc ?_ _)); refine blk_put (cs := #[.int .i64 t165, .int .i64 t166, .int .i64 0]) ?_ 2 _ rfl; (with_reducible repeat (first | refine blk_drewN ?_ _ | refine blk_drew ?_ | refine blk_alloc ?_ _)); refine blk_put (cs := #[.int .i64 t165, .int .i64 0, .int .i64 0]) ?_ 1 _ rfl; (with_reducible repeat (first | refine blk_drewN ?_ _ | refine blk_drew ?_ | refine blk_alloc ?_ _)); refine blk_put (cs := #[.int .i64 0, .int .i64 0, .int .i64 0]) ?_ 0 _ rfl; (with_reducible repeat (first | refine blk_drewN ?_ _ | refine blk_drew ?_ | refine blk_alloc ?_ _)); exact BK169.out⟩, ⟨by repeat (first | (with_reducible first | exact HB.out | apply below_alloc | apply pw_below_drewN | apply below_drew1 | refine below_set ?_ GE156.out | refine below_set ?_ GE169.out) | exact HB.out)⟩⟩
                case rest =>
                  clear HC22
                  try clear c1
                  try clear p1
                  try clear q1
                  try clear hx1
                  try clear c2
                  try clear p2
                  try clear q2
                  try clear c3
                  try clear c3b0
                  try clear c4
                  try clear c5
                  try clear c5b0
                  try clear c6
                  try clear c6b0
                  try clear p6
                  try clear c9
                  try clear c10
                  try clear c11
                  try clear c15
                  try clear p15
                  try clear q15
                  try clear hx15
                  try clear c17
                  try clear c19
                  try clear c19b0
                  try clear c19b1
                  try clear c20
                  try clear c20b0
                  try clear c20b1
                  try clear c24
                  try clear q24
                  try clear c32
                  try clear c32b0
                  try clear c32b1
                  try clear c34
                  try clear hcz12_0
                  try clear hcz12_1
                  try clear hcz12_2
                  try clear hcz12_3
                  try clear hcz12_4
                  try clear hcz14_0
                  try clear hcz14_1
                  try clear hcz14_2
                  try clear hcz14_3
                  try clear hcz14_4
                  try clear hcz15_0
                  try clear hcz15_1
                  try clear hcz15_2
                  try clear hcz15_3
                  try clear hcz15_4
                  try clear hcz35_0
                  try clear hcz35_1
                  try clear hcz35_2
                  try clear hcz35_3
                  try clear hcz35_4
                  try clear hcz9_0
                  try clear hcz9_1
                  try clear hcz9_2
                  try clear hcz9_3
                  try clear hcz9_4
                  try clear hfz12_0
                  try clear hfz12_1
                  try clear hfz12_2
                  try clear hfz12_3
                  try clear hfz12_4
                  try clear hfz14_0
                  try clear hfz14_1
                  try clear hfz14_2
                  try clear hfz14_3
                  try clear hfz14_4
                  try clear hfz15_0
                  try clear hfz15_1
                  try clear hfz15_2
                  try clear hfz15_3
                  try clear hfz15_4
                  try clear hfz35_0
                  try clear hfz35_1
                  try clear hfz35_2
                  try clear hfz35_3
                  try clear hfz35_4
                  try clear hfz9_0
                  try clear hfz9_1
                  try clear hfz9_2
                  try clear hfz9_3
                  try clear hfz9_4
                  try clear hx155_0
                  try clear hx155_1
                  try clear hx155_2
                  try clear hx155_3
                  try clear hx155_4
                  try clear p1
                  try clear p15
                  try clear p155
                  try clear p2
                  try clear p6
                  try clear q024
                  try clear q1
                  try clear q15
                  try clear q155
                  try clear q24
                  obtain ⟨kq, x71_21, rfl, HA, HJ21, HO_5, BK156, BK169, HB⟩ := hcut
                  cases kq with
                  | zero => exact absurd HA.out (by simp [gimballaw13_MedianMiddle.j3])
                  | succ kj21 =>
                    have H := HA.out
                    clear HA
                    simp only [gimballaw13_MedianMiddle.j3] at H
                    by_cases c36 : x71_21 = true
                    · subst c36
                      have H1 : (some false) = some r := by rw [if_pos rfl] at H; exact H
                      clear H
                      have H := H1
                      clear H1
                      exact absurd ((Option.some.inj H).trans hrt_.out) (by simp)
                    replace c36 := Bool.eq_false_iff.mpr c36
                    subst c36
                    have H1 : (gimballaw13_MedianMiddle.l1 kj21 l0 x3_1 t162 0 0 0 0 ((rd_T27 l0 x3_1).f0) ((rd_T27 l0 x3_1).f1) ((rd_T27 l0 x3_1).f2.f0) ((rd_T27 l0 x3_1).f2.f1) ((rd_T27 l0 x3_1).f2.f2) t165 t166 t167) = some r := by rw [if_neg (show ¬ (false = true) by decide)] at H; exact H
                    clear H
                    have H := H1
                    clear H1
                    have H' := Aside0.mk H
                    clear H
                    go_wp2
                    go_loopg [8, 9, 10, 11] kj21 (fun kq v8 v9 v10 v11 w' => ∃ (x8_5 : Int) (x9_5 : Int) (x10_5 : Int) (x11_5 : Int), v8 = .int .i64 x8_5 ∧ v9 = .int .i64 x9_5 ∧ v10 = .int .i64 x10_5 ∧ v11 = .int .i64 x11_5 ∧ Aside0 (gimballaw13_MedianMiddle.l1 kq l0 x3_1 t162 x8_5 x9_5 x10_5 x11_5 ((rd_T27 l0 x3_1).f0) ((rd_T27 l0 x3_1).f1) ((rd_T27 l0 x3_1).f2.f0) ((rd_T27 l0 x3_1).f2.f1) ((rd_T27 l0 x3_1).f2.f2) t165 t166 t167 = some r) ∧ Aside0 (kq ≤ kj21) ∧ Aside0 (Kd.Q k25 25 w' w.heap.size (fun k_ => k_ ≠ gb169) v163 t162) ∧ Aside0 (w'.heap[gb156]? = some (.cells #[(.slice A155_0 ((rd_T27 l0 x3_1).f0).length c155_0), .int .i64 ((rd_T27 l0 x3_1).f1), .int .i64 ((rd_T27 l0 x3_1).f2.f0), .int .i64 ((rd_T27 l0 x3_1).f2.f1), .int .i64 ((rd_T27 l0 x3_1).f2.f2)] 27 (0, 0))) ∧ Aside0 (w'.heap[gb169]? = some (.cells #[.int .i64 t165, .int .i64 t166, .int .i64 t167] 25 (0, 0))) ∧ Aside0 (Below w.heap.size w w'))
                    case atStart => exact ⟨(0), (0), (0), (0), (by first | rfl | (simp; done) | (simp [*]; done)), (by first | rfl | (simp; done) | (simp [*]; done)), (by first | rfl | (simp; done) | (simp [*]; done)), (by first | rfl | (simp; done) | (simp [*]; done)), H', ⟨Nat.le_refl _⟩, ⟨by (with_reducible repeat (first | apply Kd.Q_alloc | apply Kd.Q_drewN | apply Kd.Q_drew)); exact HO_5.out⟩, ⟨by (with_reducible repeat (first | refine blk_drewN ?_ _ | refine blk_drew ?_ | refine blk_alloc ?_ _)); exact BK156.out⟩, ⟨by (with_reducible repeat (first | refine blk_drewN ?_ _ | refine blk_drew ?_ | refine blk_alloc ?_ _)); exact BK169.out⟩, ⟨by repeat (first | (with_reducible first | exact HB.out | apply below_alloc | apply pw_below_drewN | apply below_drew1 | refine below_set ?_ GE156.out | refine below_set ?_ GE169.out) | exact HB.out)⟩⟩
                    case round =>
                      clear H'
                      try clear c1
                      try clear p1
                      try clear q1
                      try clear hx1
                      try clear c2
                      try clear p2
                      try clear q2
                      try clear c3
                      try clear c3b0
                      try clear c4
                      try clear c5
                      try clear c5b0
                      try clear c6
                      try clear c6b0
                      try clear p6
                      try clear c9
                      try clear c10
                      try clear c11
                      try clear c15
                      try clear p15
                      try clear q15
                      try clear hx15
                      try clear c17
                      try clear c19
                      try clear c19b0
                      try clear c19b1
                      try clear c20
                      try clear c20b0
                      try clear c20b1
                      try clear c24
                      try clear q24
                      try clear c32
                      try clear c32b0
                      try clear c32b1
                      try clear c34
                      try clear c36
                      try clear hcz12_0
                      try clear hcz12_1
                      try clear hcz12_2
                      try clear hcz12_3
                      try clear hcz12_4
                      try clear hcz14_0
                      try clear hcz14_1
                      try clear hcz14_2
                      try clear hcz14_3
                      try clear hcz14_4
                      try clear hcz15_0
                      try clear hcz15_1
                      try clear hcz15_2
                      try clear hcz15_3
                      try clear hcz15_4
                      try clear hcz35_0
                      try clear hcz35_1
                      try clear hcz35_2
                      try clear hcz35_3
                      try clear hcz35_4
                      try clear hcz9_0
                      try clear hcz9_1
                      try clear hcz9_2
                      try clear hcz9_3
                      try clear hcz9_4
                      try clear hfz12_0
                      try clear hfz12_1
                      try clear hfz12_2
                      try clear hfz12_3
                      try clear hfz12_4
                      try clear hfz14_0
                      try clear hfz14_1
                      try clear hfz14_2
                      try clear hfz14_3
                      try clear hfz14_4
                      try clear hfz15_0
                      try clear hfz15_1
                      try clear hfz15_2
                      try clear hfz15_3
                      try clear hfz15_4
                      try clear hfz35_0
                      try clear hfz35_1
                      try clear hfz35_2
                      try clear hfz35_3
                      try clear hfz35_4
                      try clear hfz9_0
                      try clear hfz9_1
                      try clear hfz9_2
                      try clear hfz9_3
                      try clear hfz9_4
                      try clear hx155_0
                      try clear hx155_1
                      try clear hx155_2
                      try clear hx155_3
                      try clear hx155_4
                      try clear p1
                      try clear p15
                      try clear p155
                      try clear p2
                      try clear p6
                      try clear q024
                      try clear q1
                      try clear q15
                      try clear q155
                      try clear q2
                      try clear q24
                      obtain ⟨x8_5, x9_5, x10_5, x11_5, rfl, rfl, rfl, rfl, HA, HK5, HO_5, BK156, BK169, HB⟩ := hrel
                      cases gk with
                      | zero => exact absurd HA.out (by simp [gimballaw13_MedianMiddle.l1])
                      | succ k5 =>
                        have H := HA.out
                        clear HA
                        simp only [gimballaw13_MedianMiddle.l1] at H
                        by_cases c37 : x11_5 < (t162.length : Int)
                        · rw [if_pos c37] at H
                          have c37b0 : decide (x11_5 < (t162.length : Int)) = true := decide_eq_true c37
                          clear c37
                          by_cases c38 : 0 ≤ x11_5
                          rotate_left
                          · rw [if_neg c38] at H
                            exact absurd H (by simp)
                          rw [if_pos c38] at H
                          have c38b0 : decide (0 ≤ x11_5) = true := decide_eq_true c38
                          clear c38
                          have HC39 := Aside0.mk H
                          clear H
                          obtain ⟨Ao40, co40, eo40, _⟩ := Kd.Q_slice HO_5.out
                          subst eo40
                          try go_wp2
                          have n0_ := Aside0.mk (Kd.Q_drew HO_5.out)
                          have n1_ := Aside0.mk (blk_drew BK156.out)
                          have n2_ := Aside0.mk (blk_drew BK169.out)
                          have n3_ := Aside0.mk (below_drew1 HB.out)
                          clear HO_5
                          clear BK156
                          clear BK169
                          clear HB
                          have HO_5 := n0_
                          have BK156 := n1_
                          have BK169 := n2_
                          have HB := n3_
                          clear n0_ n1_ n2_ n3_
                          have p171 : 0 ≤ (x11_5 : Int) := of_decide_eq_true (by first | (with_reducible assumption) | assumption)
                          have q171 : x11_5 < (t162.length : Int) := of_decide_eq_true (by first | (with_reducible assumption) | assumption)
                          obtain ⟨ad171, e171, hx171_0, hx171_1, hx171_2⟩ := at_T25 (Kd.Q_reads' HO_5.out).2.2 x11_5 p171 q171
                          cases e171
                          replace p171 := eq_true p171
                          replace q171 := eq_true q171
                          refine start_ (n := 8) (S := fun w' => w'.cell? ⟨gb169, 0, none⟩ = some (.int .i64 t165) ∧ w'.cell? ⟨gb169, 1, none⟩ = some (.int .i64 t166) ∧ w'.cell? ⟨gb169, 2, none⟩ = some (.int .i64 t167) ∧ w'.cell? (ad171.add ((x11_5).toNat * 3)) = some (.int .i64 ((rd_T25 t162 x11_5).f0)) ∧ w'.cell? ⟨(ad171.add ((x11_5).toNat * 3)).block, (ad171.add ((x11_5).toNat * 3)).off + 1, none⟩ = some (.int .i64 ((rd_T25 t162 x11_5).f1)) ∧ w'.cell? ⟨(ad171.add ((x11_5).toNat * 3)).block, (ad171.add ((x11_5).toNat * 3)).off + 2, none⟩ = some (.int .i64 ((rd_T25 t162 x11_5).f2))) (ds := []) #[false, false, false, false, false, false, false, false] (by kernel_rfl) rfl rfl ⟨(blk_cell BK169.out 0).trans rfl, (blk_cell BK169.out 1).trans rfl, (blk_cell BK169.out 2).trans rfl, hx171_0, hx171_1, hx171_2⟩ (fun hHeld => ?_); refine with_tabW gimballaw13_MedianMiddle.tab13 gimballaw13_MedianMiddle.bits13 (fun HT_ HW_ => ?_)
                          generalize wr.drew = w41 at HO_5 BK156 BK169 HB hx171_0 hx171_1 hx171_2 hHeld ⊢
                          refine pure_ (i := 0) (N := some 78) (v := ?_) (a' := ?_) #[true, false, false, false, false, false, false, false] rfl rfl (any_of HT_.out (by kernel_rfl)) (fun _ _ _ h => h) (Or.inl ⟨by rfl, ?_⟩) ?_ ?_
                          rotate_left
                          · intro w'
                            go_simp
                            with_reducible rfl
                          rotate_left
                          · simp only [Act.put, List.setIfInBounds_toArray, List.set_cons_zero, List.set_cons_succ, i64_w, i32_w]
                            rfl
                          refine pure_ (i := 1) (N := some 79) (v := ?_) (a' := ?_) #[true, true, false, false, false, false, false, false] rfl rfl (any_of HT_.out (by kernel_rfl)) (fun _ _ _ h => h) (Or.inl ⟨by rfl, ?_⟩) ?_ ?_
                          rotate_left
                          · intro w'
                            go_simp
                            with_reducible rfl
                          rotate_left
                          · simp only [Act.put, List.setIfInBounds_toArray, List.set_cons_zero, List.set_cons_succ, i64_w, i32_w]
                            rfl
                          refine pure_ (i := 2) (N := some 80) (v := ?_) (a' := ?_) #[true, true, true, false, false, false, false, false] rfl rfl (any_of HT_.out (by kernel_rfl)) (fun _ _ _ h => h) (Or.inl ⟨by rfl, ?_⟩) ?_ ?_
                          rotate_left
                          · intro w'
                            go_simp
                            with_reducible rfl
                          rotate_left
                          · simp only [Act.put, List.setIfInBounds_toArray, List.set_cons_zero, List.set_cons_succ, i64_w, i32_w]
                            rfl
                          refine pure_ (i := 3) (N := some 81) (v := ?_) (a' := ?_) #[true, true, true, true, false, false, false, false] rfl rfl (any_of HT_.out (by kernel_rfl)) (fun _ _ _ h => h) (Or.inl ⟨by rfl, ?_⟩) ?_ ?_
                          rotate_left
                          · intro w'
                            go_simp
                            with_reducible rfl
                          rotate_left
                          · simp only [Act.put, List.setIfInBounds_toArray, List.set_cons_zero, List.set_cons_succ, i64_w, i32_w]
                            rfl
                          refine pure_ (i := 5) (N := some 83) (v := ?_) (a' := ?_) #[true, true, true, true, false, true, false, false] rfl rfl (any_of HT_.out (by kernel_rfl)) (fun _ _ _ h => h) (Or.inl ⟨by rfl, ?_⟩) ?_ ?_
                          rotate_left
                          · intro w'
                            go_simp
                            with_reducible rfl
                          rotate_left
                          · simp only [Act.put, List.setIfInBounds_toArray, List.set_cons_zero, List.set_cons_succ, i64_w, i32_w]
                            rfl
                          refine take_ (i := 4) (N := some 82) (v := ?_) (a' := ?_) #[true, true, true, true, true, true, false, false] rfl rfl (take_ofW HT_.out HW_.out (by kernel_rfl)) (fun _ _ _ h => h) (Or.inl ⟨by rfl, ?_⟩) hHeld ?_ ?_
                          rotate_left
                          · rintro w' ⟨s0, s1, s2, s3, s4, s5⟩
                            go_simp
                            with_reducible rfl
                          rotate_left
                          · simp only [Act.put, List.setIfInBounds_toArray, List.set_cons_zero, List.set_cons_succ, i64_w, i32_w]
                            rfl
                          refine take_ (i := 6) (N := some 84) (v := ?_) (a' := ?_) #[true, true, true, true, true, true, true, false] rfl rfl (take_ofW HT_.out HW_.out (by kernel_rfl)) (fun _ _ _ h => h) (Or.inl ⟨by rfl, ?_⟩) hHeld ?_ ?_
                          rotate_left
                          · rintro w' ⟨s0, s1, s2, s3, s4, s5⟩
                            go_simp
                            with_reducible rfl
                          rotate_left
                          · simp only [Act.put, List.setIfInBounds_toArray, List.set_cons_zero, List.set_cons_succ, i64_w, i32_w]
                            rfl
                          refine pure_ (i := 7) (N := some 85) (v := ?_) (a' := ?_) #[true, true, true, true, true, true, true, true] rfl rfl (any_of HT_.out (by kernel_rfl)) (fun _ _ _ h => h) (Or.inl ⟨by rfl, ?_⟩) ?_ ?_
                          rotate_left
                          · intro w'
                            go_simp
                            with_reducible rfl
                          rotate_left
                          · simp only [Act.put, List.setIfInBounds_toArray, List.set_cons_zero, List.set_cons_succ, i64_w, i32_w]
                            rfl
                          refine done_ (done_of HT_.out (by kernel_rfl)) ?_
                          go_upto_if 85 with (fail)
                          go_cut [8] (fun v8 wc => ∃ (kq : Nat) (x8_38 : Int), v8 = .int .i64 x8_38 ∧ Aside0 (gimballaw13_MedianMiddle.j5 kq l0 x3_1 t162 x8_38 x9_5 x10_5 x11_5 ((rd_T27 l0 x3_1).f0) ((rd_T27 l0 x3_1).f1) ((rd_T27 l0 x3_1).f2.f0) ((rd_T27 l0 x3_1).f2.f1) ((rd_T27 l0 x3_1).f2.f2) t165 t166 t167 = some r) ∧ Aside0 (kq ≤ k5) ∧ Aside0 (Kd.Q k25 25 wc w.heap.size (fun k_ => k_ ≠ gb169) (.slice (some ad171) t162.length co40) t162) ∧ Aside0 (wc.heap[gb156]? = some (.cells #[(.slice A155_0 ((rd_T27 l0 x3_1).f0).length c155_0), .int .i64 ((rd_T27 l0 x3_1).f1), .int .i64 ((rd_T27 l0 x3_1).f2.f0), .int .i64 ((rd_T27 l0 x3_1).f2.f1), .int .i64 ((rd_T27 l0 x3_1).f2.f2)] 27 (0, 0))) ∧ Aside0 (wc.heap[gb169]? = some (.cells #[.int .i64 t165, .int .i64 t166, .int .i64 t167] 25 (0, 0))) ∧ Aside0 (Below w.heap.size w wc))
                          case first =>
                            have H := HC39.out
                            clear HC39
                            by_cases c42 : ((rd_T25 t162 x11_5).f1) < t166
                            · rw [if_pos c42] at H
                              have c42b0 : decide (((rd_T25 t162 x11_5).f1) < t166) = true := decide_eq_true c42
                              clear c42
                              (first | rw [c42b0] | (simp only [i64_w, i32_w]; rw [c42b0]) | skip)
                              have H' := Aside0.mk H
                              clear H
                              go_wp2
                              go_meet
                              case rel => exact ⟨_, (wrap64 (x8_5 + 1)), (by first | rfl | (simp; done) | (simp [*]; done)), H', ⟨by have := HK1.out; have := HJ1.out; have := HJ6.out; have := HJ21.out; have := HK5.out; first | omega | exact Nat.le_refl _⟩, ⟨by (with_reducible repeat (first | apply Kd.Q_alloc | apply Kd.Q_drewN | apply Kd.Q_drew)); exact HO_5.out⟩, ⟨by (with_reducible repeat (first | refine blk_drewN ?_ _ | refine blk_drew ?_ | refine blk_alloc ?_ _)); exact BK156.out⟩, ⟨by (with_reducible repeat (first | refine blk_drewN ?_ _ | refine blk_drew ?_ | refine blk_alloc ?_ _)); exact BK169.out⟩, ⟨by repeat (first | (with_reducible first | exact HB.out | apply below_alloc | apply pw_below_drewN | apply below_drew1 | refine below_set ?_ GE156.out | refine below_set ?_ GE169.out) | exact HB.out)⟩⟩
                            rw [if_neg c42] at H
                            have c42b0 : decide (((rd_T25 t162 x11_5).f1) < t166) = false := decide_eq_false c42
                            clear c42
                            (first | rw [c42b0] | (simp only [i64_w, i32_w]; rw [c42b0]) | skip)
                            have H' := Aside0.mk H
                            clear H
                            go_wp2
                            go_meet
                            case rel => exact ⟨_, (x8_5), (by first | rfl | (simp; done) | (simp [*]; done)), H', ⟨by have := HK1.out; have := HJ1.out; have := HJ6.out; have := HJ21.out; have := HK5.out; first | omega | exact Nat.le_refl _⟩, ⟨by (with_reducible repeat (first | apply Kd.Q_alloc | apply Kd.Q_drewN | apply Kd.Q_drew)); exact HO_5.out⟩, ⟨by (with_reducible repeat (first | refine blk_drewN ?_ _ | refine blk_drew ?_ | refine blk_alloc ?_ _)); exact BK156.out⟩, ⟨by (with_reducible repeat (first | refine blk_drewN ?_ _ | refine blk_drew ?_ | refine blk_alloc ?_ _)); exact BK169.out⟩, ⟨by repeat (first | (with_reducible first | exact HB.out | apply below_alloc | apply pw_below_drewN | apply below_drew1 | refine below_set ?_ GE156.out | refine below_set ?_ GE169.out) | exact HB.out)⟩⟩
                          case rest =>
                            clear HC39
                            try clear c1
                            try clear p1
                            try clear q1
                            try clear hx1
                            try clear c2
                            try clear p2
                            try clear q2
                            try clear c3
                            try clear c3b0
                            try clear c4
                            try clear c5
                            try clear c5b0
                            try clear c6
                            try clear c6b0
                            try clear p6
                            try clear c9
                            try clear c10
                            try clear c11
                            try clear c15
                            try clear p15
                            try clear q15
                            try clear hx15
                            try clear c17
                            try clear p17
                            try clear q17
                            try clear hx17
                            try clear c19
                            try clear c19b0
                            try clear c19b1
                            try clear c20
                            try clear c20b0
                            try clear c20b1
                            try clear c24
                            try clear q24
                            try clear c32
                            try clear c32b0
                            try clear c32b1
                            try clear c34
                            try clear c36
                            try clear c37
                            try clear c37b0
                            try clear c38
                            try clear c38b0
                            try clear c42
                            try clear c42b0
                            try clear hcz12_0
                            try clear hcz12_1
                            try clear hcz12_2
                            try clear hcz12_3
                            try clear hcz12_4
                            try clear hcz14_0
                            try clear hcz14_1
                            try clear hcz14_2
                            try clear hcz14_3
                            try clear hcz14_4
                            try clear hcz15_0
                            try clear hcz15_1
                            try clear hcz15_2
                            try clear hcz15_3
                            try clear hcz15_4
                            try clear hcz35_0
                            try clear hcz35_1
                            try clear hcz35_2
                            try clear hcz35_3
                            try clear hcz35_4
                            try clear hcz9_0
                            try clear hcz9_1
                            try clear hcz9_2
                            try clear hcz9_3
                            try clear hcz9_4
                            try clear hfz12_0
                            try clear hfz12_1
                            try clear hfz12_2
                            try clear hfz12_3
                            try clear hfz12_4
                            try clear hfz14_0
                            try clear hfz14_1
                            try clear hfz14_2
                            try clear hfz14_3
                            try clear hfz14_4
                            try clear hfz15_0
                            try clear hfz15_1
                            try clear hfz15_2
                            try clear hfz15_3
                            try clear hfz15_4
                            try clear hfz35_0
                            try clear hfz35_1
                            try clear hfz35_2
                            try clear hfz35_3
                            try clear hfz35_4
                            try clear hfz9_0
                            try clear hfz9_1
                            try clear hfz9_2
                            try clear hfz9_3
                            try clear hfz9_4
                            try clear hx155_0
                            try clear hx155_1
                            try clear hx155_2
                            try clear hx155_3
                            try clear hx155_4
                            try clear hx171_0
                            try clear hx171_1
                            try clear hx171_2
                            try clear p1
                            try clear p15
                            try clear p155
                            try clear p171
                            try clear p2
                            try clear p6
                            try clear q024
                            try clear q1
                            try clear q15
                            try clear q155
                            try clear q171
                            try clear q2
                            try clear q24
                            obtain ⟨kq, x8_38, rfl, HA, HJ38, HO_5, BK156, BK169, HB⟩ := hcut
                            cases kq with
                            | zero => exact absurd HA.out (by simp [gimballaw13_MedianMiddle.j5])
                            | succ kj38 =>
                              have H := HA.out
                              clear HA
                              simp only [gimballaw13_MedianMiddle.j5] at H
                              by_cases c43 : 0 ≤ x11_5
                              rotate_left
                              · rw [if_neg c43] at H
                                exact absurd H (by simp)
                              rw [if_pos c43] at H
                              have c43b0 : decide (0 ≤ x11_5) = true := decide_eq_true c43
                              clear c43
                              by_cases c44 : x11_5 < (t162.length : Int)
                              rotate_left
                              · rw [if_neg c44] at H
                                exact absurd H (by simp)
                              rw [if_pos c44] at H
                              have c44b0 : decide (x11_5 < (t162.length : Int)) = true := decide_eq_true c44
                              clear c44
                              by_cases c45 : ((rd_T25 t162 x11_5).f1) > t166
                              · rw [if_pos c45] at H
                                have c45b0 : decide (t166 < ((rd_T25 t162 x11_5).f1)) = true := decide_eq_true c45
                                clear c45
                                by_cases c46 : ((rd_T25 t162 x11_5).f1) = t166
                                · rw [if_pos c46] at H
                                  have c46b0 : (((rd_T25 t162 x11_5).f1) == t166) = true := beq_iff_eq.mpr c46
                                  have c46b1 : (((rd_T25 t162 x11_5).f1) != t166) = false := bne_eq_false_iff_eq.mpr c46
                                  clear c46
                                  have H' := Aside0.mk H
                                  clear H
                                  try go_wp2
                                  have n0_ := Aside0.mk (Kd.Q_drew HO_5.out)
                                  have n1_ := Aside0.mk (blk_drew BK156.out)
                                  have n2_ := Aside0.mk (blk_drew BK169.out)
                                  have n3_ := Aside0.mk (below_drew1 HB.out)
                                  clear HO_5
                                  clear BK156
                                  clear BK169
                                  clear HB
                                  have HO_5 := n0_
                                  have BK156 := n1_
                                  have BK169 := n2_
                                  have HB := n3_
                                  clear n0_ n1_ n2_ n3_
                                  have p172 : 0 ≤ (x11_5 : Int) := of_decide_eq_true (by first | (with_reducible assumption) | assumption)
                                  have q172 : x11_5 < (t162.length : Int) := of_decide_eq_true (by first | (with_reducible assumption) | assumption)
                                  obtain ⟨ad172, e172, hx172_0, hx172_1, hx172_2⟩ := at_T25 (Kd.Q_reads' HO_5.out).2.2 x11_5 p172 q172
                                  obtain rfl : ad171 = ad172 := (by injection e172)
                                  replace p172 := eq_true p172
                                  replace q172 := eq_true q172
                                  refine start_ (n := 8) (S := fun w' => w'.cell? ⟨gb169, 0, none⟩ = some (.int .i64 t165) ∧ w'.cell? ⟨gb169, 1, none⟩ = some (.int .i64 t166) ∧ w'.cell? ⟨gb169, 2, none⟩ = some (.int .i64 t167) ∧ w'.cell? (ad171.add ((x11_5).toNat * 3)) = some (.int .i64 ((rd_T25 t162 x11_5).f0)) ∧ w'.cell? ⟨(ad171.add ((x11_5).toNat * 3)).block, (ad171.add ((x11_5).toNat * 3)).off + 1, none⟩ = some (.int .i64 ((rd_T25 t162 x11_5).f1)) ∧ w'.cell? ⟨(ad171.add ((x11_5).toNat * 3)).block, (ad171.add ((x11_5).toNat * 3)).off + 2, none⟩ = some (.int .i64 ((rd_T25 t162 x11_5).f2))) (ds := []) #[false, false, false, false, false, false, false, false] (by kernel_rfl) rfl rfl ⟨(blk_cell BK169.out 0).trans rfl, (blk_cell BK169.out 1).trans rfl, (blk_cell BK169.out 2).trans rfl, hx172_0, hx172_1, hx172_2⟩ (fun hHeld => ?_); refine with_tabW gimballaw13_MedianMiddle.tab15 gimballaw13_MedianMiddle.bits15 (fun HT_ HW_ => ?_)
                                  generalize wc.drew = w47 at HO_5 BK156 BK169 HB hx172_0 hx172_1 hx172_2 hHeld ⊢
                                  refine pure_ (i := 0) (N := some 88) (v := ?_) (a' := ?_) #[true, false, false, false, false, false, false, false] rfl rfl (any_of HT_.out (by kernel_rfl)) (fun _ _ _ h => h) (Or.inl ⟨by rfl, ?_⟩) ?_ ?_
                                  rotate_left
                                  · intro w'
                                    go_simp
                                    with_reducible rfl
                                  rotate_left
                                  · simp only [Act.put, List.setIfInBounds_toArray, List.set_cons_zero, List.set_cons_succ, i64_w, i32_w]
                                    rfl
                                  refine pure_ (i := 1) (N := some 89) (v := ?_) (a' := ?_) #[true, true, false, false, false, false, false, false] rfl rfl (any_of HT_.out (by kernel_rfl)) (fun _ _ _ h => h) (Or.inl ⟨by rfl, ?_⟩) ?_ ?_
                                  rotate_left
                                  · intro w'
                                    go_simp
                                    with_reducible rfl
                                  rotate_left
                                  · simp only [Act.put, List.setIfInBounds_toArray, List.set_cons_zero, List.set_cons_succ, i64_w, i32_w]
                                    rfl
                                  refine pure_ (i := 2) (N := some 90) (v := ?_) (a' := ?_) #[true, true, true, false, false, false, false, false] rfl rfl (any_of HT_.out (by kernel_rfl)) (fun _ _ _ h => h) (Or.inl ⟨by rfl, ?_⟩) ?_ ?_
                                  rotate_left
                                  · intro w'
                                    go_simp
                                    with_reducible rfl
                                  rotate_left
                                  · simp only [Act.put, List.setIfInBounds_toArray, List.set_cons_zero, List.set_cons_succ, i64_w, i32_w]
                                    rfl
                                  refine pure_ (i := 3) (N := some 91) (v := ?_) (a' := ?_) #[true, true, true, true, false, false, false, false] rfl rfl (any_of HT_.out (by kernel_rfl)) (fun _ _ _ h => h) (Or.inl ⟨by rfl, ?_⟩) ?_ ?_
                                  rotate_left
                                  · intro w'
                                    go_simp
                                    with_reducible rfl
                                  rotate_left
                                  · simp only [Act.put, List.setIfInBounds_toArray, List.set_cons_zero, List.set_cons_succ, i64_w, i32_w]
                                    rfl
                                  refine pure_ (i := 5) (N := some 93) (v := ?_) (a' := ?_) #[true, true, true, true, false, true, false, false] rfl rfl (any_of HT_.out (by kernel_rfl)) (fun _ _ _ h => h) (Or.inl ⟨by rfl, ?_⟩) ?_ ?_
                                  rotate_left
                                  · intro w'
                                    go_simp
                                    with_reducible rfl
                                  rotate_left
                                  · simp only [Act.put, List.setIfInBounds_toArray, List.set_cons_zero, List.set_cons_succ, i64_w, i32_w]
                                    rfl
                                  refine take_ (i := 4) (N := some 92) (v := ?_) (a' := ?_) #[true, true, true, true, true, true, false, false] rfl rfl (take_ofW HT_.out HW_.out (by kernel_rfl)) (fun _ _ _ h => h) (Or.inl ⟨by rfl, ?_⟩) hHeld ?_ ?_
                                  rotate_left
                                  · rintro w' ⟨s0, s1, s2, s3, s4, s5⟩
                                    go_simp
                                    with_reducible rfl
                                  rotate_left
                                  · simp only [Act.put, List.setIfInBounds_toArray, List.set_cons_zero, List.set_cons_succ, i64_w, i32_w]
                                    rfl
                                  refine take_ (i := 6) (N := some 94) (v := ?_) (a' := ?_) #[true, true, true, true, true, true, true, false] rfl rfl (take_ofW HT_.out HW_.out (by kernel_rfl)) (fun _ _ _ h => h) (Or.inl ⟨by rfl, ?_⟩) hHeld ?_ ?_
                                  rotate_left
                                  · rintro w' ⟨s0, s1, s2, s3, s4, s5⟩
                                    go_simp
                                    with_reducible rfl
                                  rotate_left
                                  · simp only [Act.put, List.setIfInBounds_toArray, List.set_cons_zero, List.set_cons_succ, i64_w, i32_w]
                                    rfl
                                  refine pure_ (i := 7) (N := some 95) (v := ?_) (a' := ?_) #[true, true, true, true, true, true, true, true] rfl rfl (any_of HT_.out (by kernel_rfl)) (fun _ _ _ h => h) (Or.inl ⟨by rfl, ?_⟩) ?_ ?_
                                  rotate_left
                                  · intro w'
                                    go_simp
                                    with_reducible rfl
                                  rotate_left
                                  · simp only [Act.put, List.setIfInBounds_toArray, List.set_cons_zero, List.set_cons_succ, i64_w, i32_w]
                                    rfl
                                  refine done_ (done_of HT_.out (by kernel_rfl)) ?_
                                  try go_wp2
                                  have n0_ := Aside0.mk (Kd.Q_drew HO_5.out)
                                  have n1_ := Aside0.mk (blk_drew BK156.out)
                                  have n2_ := Aside0.mk (blk_drew BK169.out)
                                  have n3_ := Aside0.mk (below_drew1 HB.out)
                                  clear HO_5
                                  clear BK156
                                  clear BK169
                                  clear HB
                                  have HO_5 := n0_
                                  have BK156 := n1_
                                  have BK169 := n2_
                                  have HB := n3_
                                  clear n0_ n1_ n2_ n3_
                                  have p173 : 0 ≤ (x11_5 : Int) := of_decide_eq_true (by first | (with_reducible assumption) | assumption)
                                  have q173 : x11_5 < (t162.length : Int) := of_decide_eq_true (by first | (with_reducible assumption) | assumption)
                                  obtain ⟨ad173, e173, hx173_0, hx173_1, hx173_2⟩ := at_T25 (Kd.Q_reads' HO_5.out).2.2 x11_5 p173 q173
                                  obtain rfl : ad171 = ad173 := (by injection e173)
                                  replace p173 := eq_true p173
                                  replace q173 := eq_true q173
                                  refine start_ (n := 8) (S := fun w' => w'.cell? ⟨gb169, 0, none⟩ = some (.int .i64 t165) ∧ w'.cell? ⟨gb169, 1, none⟩ = some (.int .i64 t166) ∧ w'.cell? ⟨gb169, 2, none⟩ = some (.int .i64 t167) ∧ w'.cell? (ad171.add ((x11_5).toNat * 3)) = some (.int .i64 ((rd_T25 t162 x11_5).f0)) ∧ w'.cell? ⟨(ad171.add ((x11_5).toNat * 3)).block, (ad171.add ((x11_5).toNat * 3)).off + 1, none⟩ = some (.int .i64 ((rd_T25 t162 x11_5).f1)) ∧ w'.cell? ⟨(ad171.add ((x11_5).toNat * 3)).block, (ad171.add ((x11_5).toNat * 3)).off + 2, none⟩ = some (.int .i64 ((rd_T25 t162 x11_5).f2))) (ds := []) #[false, false, false, false, false, false, false, false] (by kernel_rfl) rfl rfl ⟨(blk_cell BK169.out 0).trans rfl, (blk_cell BK169.out 1).trans rfl, (blk_cell BK169.out 2).trans rfl, hx173_0, hx173_1, hx173_2⟩ (fun hHeld => ?_); refine with_tabW gimballaw13_MedianMiddle.tab17 gimballaw13_MedianMiddle.bits17 (fun HT_ HW_ => ?_)
                                  generalize w47.drew = w48 at HO_5 BK156 BK169 HB hx173_0 hx173_1 hx173_2 hHeld ⊢
                                  refine pure_ (i := 0) (N := some 98) (v := ?_) (a' := ?_) #[true, false, false, false, false, false, false, false] rfl rfl (any_of HT_.out (by kernel_rfl)) (fun _ _ _ h => h) (Or.inl ⟨by rfl, ?_⟩) ?_ ?_
                                  rotate_left
                                  · intro w'
                                    go_simp
                                    with_reducible rfl
                                  rotate_left
                                  · simp only [Act.put, List.setIfInBounds_toArray, List.set_cons_zero, List.set_cons_succ, i64_w, i32_w]
                                    rfl
                                  refine pure_ (i := 1) (N := some 99) (v := ?_) (a' := ?_) #[true, true, false, false, false, false, false, false] rfl rfl (any_of HT_.out (by kernel_rfl)) (fun _ _ _ h => h) (Or.inl ⟨by rfl, ?_⟩) ?_ ?_
                                  rotate_left
                                  · intro w'
                                    go_simp
                                    with_reducible rfl
                                  rotate_left
                                  · simp only [Act.put, List.setIfInBounds_toArray, List.set_cons_zero, List.set_cons_succ, i64_w, i32_w]
                                    rfl
                                  refine pure_ (i := 2) (N := some 100) (v := ?_) (a' := ?_) #[true, true, true, false, false, false, false, false] rfl rfl (any_of HT_.out (by kernel_rfl)) (fun _ _ _ h => h) (Or.inl ⟨by rfl, ?_⟩) ?_ ?_
                                  rotate_left
                                  · intro w'
                                    go_simp
                                    with_reducible rfl
                                  rotate_left
                                  · simp only [Act.put, List.setIfInBounds_toArray, List.set_cons_zero, List.set_cons_succ, i64_w, i32_w]
                                    rfl
                                  refine pure_ (i := 3) (N := some 101) (v := ?_) (a' := ?_) #[true, true, true, true, false, false, false, false] rfl rfl (any_of HT_.out (by kernel_rfl)) (fun _ _ _ h => h) (Or.inl ⟨by rfl, ?_⟩) ?_ ?_
                                  rotate_left
                                  · intro w'
                                    go_simp
                                    with_reducible rfl
                                  rotate_left
                                  · simp only [Act.put, List.setIfInBounds_toArray, List.set_cons_zero, List.set_cons_succ, i64_w, i32_w]
                                    rfl
                                  refine pure_ (i := 5) (N := some 103) (v := ?_) (a' := ?_) #[true, true, true, true, false, true, false, false] rfl rfl (any_of HT_.out (by kernel_rfl)) (fun _ _ _ h => h) (Or.inl ⟨by rfl, ?_⟩) ?_ ?_
                                  rotate_left
                                  · intro w'
                                    go_simp
                                    with_reducible rfl
                                  rotate_left
                                  · simp only [Act.put, List.setIfInBounds_toArray, List.set_cons_zero, List.set_cons_succ, i64_w, i32_w]
                                    rfl
                                  refine take_ (i := 4) (N := some 102) (v := ?_) (a' := ?_) #[true, true, true, true, true, true, false, false] rfl rfl (take_ofW HT_.out HW_.out (by kernel_rfl)) (fun _ _ _ h => h) (Or.inl ⟨by rfl, ?_⟩) hHeld ?_ ?_
                                  rotate_left
                                  · rintro w' ⟨s0, s1, s2, s3, s4, s5⟩
                                    go_simp
                                    with_reducible rfl
                                  rotate_left
                                  · simp only [Act.put, List.setIfInBounds_toArray, List.set_cons_zero, List.set_cons_succ, i64_w, i32_w]
                                    rfl
                                  refine take_ (i := 6) (N := some 104) (v := ?_) (a' := ?_) #[true, true, true, true, true, true, true, false] rfl rfl (take_ofW HT_.out HW_.out (by kernel_rfl)) (fun _ _ _ h => h) (Or.inl ⟨by rfl, ?_⟩) hHeld ?_ ?_
                                  rotate_left
                                  · rintro w' ⟨s0, s1, s2, s3, s4, s5⟩
                                    go_simp
                                    with_reducible rfl
                                  rotate_left
                                  · simp only [Act.put, List.setIfInBounds_toArray, List.set_cons_zero, List.set_cons_succ, i64_w, i32_w]
                                    rfl
                                  refine pure_ (i := 7) (N := some 105) (v := ?_) (a' := ?_) #[true, true, true, true, true, true, true, true] rfl rfl (any_of HT_.out (by kernel_rfl)) (fun _ _ _ h => h) (Or.inl ⟨by rfl, ?_⟩) ?_ ?_
                                  rotate_left
                                  · intro w'
                                    go_simp
                                    with_reducible rfl
                                  rotate_left
                                  · simp only [Act.put, List.setIfInBounds_toArray, List.set_cons_zero, List.set_cons_succ, i64_w, i32_w]
                                    rfl
                                  refine done_ (done_of HT_.out (by kernel_rfl)) ?_
                                  try go_wp2
                                  go_roundg kj38
                                  case measure => have := HK1.out; have := HJ1.out; have := HJ6.out; have := HJ21.out; have := HK5.out; have := HJ38.out; omega
                                  case rel => exact ⟨(x8_38), (wrap64 (x9_5 + 1)), (wrap64 (x10_5 + 1)), (wrap64 (x11_5 + 1)), (by first | rfl | (simp; done) | (simp [*]; done)), (by first | rfl | (simp; done) | (simp [*]; done)), (by first | rfl | (simp; done) | (simp [*]; done)), (by first | rfl | (simp; done) | (simp [*]; done)), H', ⟨by have := HK1.out; have := HJ1.out; have := HJ6.out; have := HJ21.out; have := HK5.out; have := HJ38.out; omega⟩, ⟨by (with_reducible repeat (first | apply Kd.Q_alloc | apply Kd.Q_drewN | apply Kd.Q_drew)); exact HO_5.out⟩, ⟨by (with_reducible repeat (first | refine blk_drewN ?_ _ | refine blk_drew ?_ | refine blk_alloc ?_ _)); exact BK156.out⟩, ⟨by (with_reducible repeat (first | refine blk_drewN ?_ _ | refine blk_drew ?_ | refine blk_alloc ?_ _)); exact BK169.out⟩, ⟨by repeat (first | (with_reducible first | exact HB.out | apply below_alloc | apply pw_below_drewN | apply below_drew1 | refine below_set ?_ GE156.out | refine below_set ?_ GE169.out) | exact HB.out)⟩⟩
                                rw [if_neg c46] at H
                                have c46b0 : (((rd_T25 t162 x11_5).f1) == t166) = false := beq_eq_false_iff_ne.mpr c46
                                have c46b1 : (((rd_T25 t162 x11_5).f1) != t166) = true := bne_iff_ne.mpr c46
                                have H' := Aside0.mk H
                                clear H
                                try go_wp2
                                have n0_ := Aside0.mk (Kd.Q_drew HO_5.out)
                                have n1_ := Aside0.mk (blk_drew BK156.out)
                                have n2_ := Aside0.mk (blk_drew BK169.out)
                                have n3_ := Aside0.mk (below_drew1 HB.out)
                                clear HO_5
                                clear BK156
                                clear BK169
                                clear HB
                                have HO_5 := n0_
                                have BK156 := n1_
                                have BK169 := n2_
                                have HB := n3_
                                clear n0_ n1_ n2_ n3_
                                have p172 : 0 ≤ (x11_5 : Int) := of_decide_eq_true (by first | (with_reducible assumption) | assumption)
                                have q172 : x11_5 < (t162.length : Int) := of_decide_eq_true (by first | (with_reducible assumption) | assumption)
                                obtain ⟨ad172, e172, hx172_0, hx172_1, hx172_2⟩ := at_T25 (Kd.Q_reads' HO_5.out).2.2 x11_5 p172 q172
                                obtain rfl : ad171 = ad172 := (by injection e172)
                                replace p172 := eq_true p172
                                replace q172 := eq_true q172
                                refine start_ (n := 8) (S := fun w' => w'.cell? ⟨gb169, 0, none⟩ = some (.int .i64 t165) ∧ w'.cell? ⟨gb169, 1, none⟩ = some (.int .i64 t166) ∧ w'.cell? ⟨gb169, 2, none⟩ = some (.int .i64 t167) ∧ w'.cell? (ad171.add ((x11_5).toNat * 3)) = some (.int .i64 ((rd_T25 t162 x11_5).f0)) ∧ w'.cell? ⟨(ad171.add ((x11_5).toNat * 3)).block, (ad171.add ((x11_5).toNat * 3)).off + 1, none⟩ = some (.int .i64 ((rd_T25 t162 x11_5).f1)) ∧ w'.cell? ⟨(ad171.add ((x11_5).toNat * 3)).block, (ad171.add ((x11_5).toNat * 3)).off + 2, none⟩ = some (.int .i64 ((rd_T25 t162 x11_5).f2))) (ds := []) #[false, false, false, false, false, false, false, false] (by kernel_rfl) rfl rfl ⟨(blk_cell BK169.out 0).trans rfl, (blk_cell BK169.out 1).trans rfl, (blk_cell BK169.out 2).trans rfl, hx172_0, hx172_1, hx172_2⟩ (fun hHeld => ?_); refine with_tabW gimballaw13_MedianMiddle.tab15 gimballaw13_MedianMiddle.bits15 (fun HT_ HW_ => ?_)
                                generalize wc.drew = w49 at HO_5 BK156 BK169 HB hx172_0 hx172_1 hx172_2 hHeld ⊢
                                refine pure_ (i := 0) (N := some 88) (v := ?_) (a' := ?_) #[true, false, false, false, false, false, false, false] rfl rfl (any_of HT_.out (by kernel_rfl)) (fun _ _ _ h => h) (Or.inl ⟨by rfl, ?_⟩) ?_ ?_
                                rotate_left
                                · intro w'
                                  go_simp
                                  with_reducible rfl
                                rotate_left
                                · simp only [Act.put, List.setIfInBounds_toArray, List.set_cons_zero, List.set_cons_succ, i64_w, i32_w]
                                  rfl
                                refine pure_ (i := 1) (N := some 89) (v := ?_) (a' := ?_) #[true, true, false, false, false, false, false, false] rfl rfl (any_of HT_.out (by kernel_rfl)) (fun _ _ _ h => h) (Or.inl ⟨by rfl, ?_⟩) ?_ ?_
                                rotate_left
                                · intro w'
                                  go_simp
                                  with_reducible rfl
                                rotate_left
                                · simp only [Act.put, List.setIfInBounds_toArray, List.set_cons_zero, List.set_cons_succ, i64_w, i32_w]
                                  rfl
                                refine pure_ (i := 2) (N := some 90) (v := ?_) (a' := ?_) #[true, true, true, false, false, false, false, false] rfl rfl (any_of HT_.out (by kernel_rfl)) (fun _ _ _ h => h) (Or.inl ⟨by rfl, ?_⟩) ?_ ?_
                                rotate_left
                                · intro w'
                                  go_simp
                                  with_reducible rfl
                                rotate_left
                                · simp only [Act.put, List.setIfInBounds_toArray, List.set_cons_zero, List.set_cons_succ, i64_w, i32_w]
                                  rfl
                                refine pure_ (i := 3) (N := some 91) (v := ?_) (a' := ?_) #[true, true, true, true, false, false, false, false] rfl rfl (any_of HT_.out (by kernel_rfl)) (fun _ _ _ h => h) (Or.inl ⟨by rfl, ?_⟩) ?_ ?_
                                rotate_left
                                · intro w'
                                  go_simp
                                  with_reducible rfl
                                rotate_left
                                · simp only [Act.put, List.setIfInBounds_toArray, List.set_cons_zero, List.set_cons_succ, i64_w, i32_w]
                                  rfl
                                refine pure_ (i := 5) (N := some 93) (v := ?_) (a' := ?_) #[true, true, true, true, false, true, false, false] rfl rfl (any_of HT_.out (by kernel_rfl)) (fun _ _ _ h => h) (Or.inl ⟨by rfl, ?_⟩) ?_ ?_
                                rotate_left
                                · intro w'
                                  go_simp
                                  with_reducible rfl
                                rotate_left
                                · simp only [Act.put, List.setIfInBounds_toArray, List.set_cons_zero, List.set_cons_succ, i64_w, i32_w]
                                  rfl
                                refine take_ (i := 4) (N := some 92) (v := ?_) (a' := ?_) #[true, true, true, true, true, true, false, false] rfl rfl (take_ofW HT_.out HW_.out (by kernel_rfl)) (fun _ _ _ h => h) (Or.inl ⟨by rfl, ?_⟩) hHeld ?_ ?_
                                rotate_left
                                · rintro w' ⟨s0, s1, s2, s3, s4, s5⟩
                                  go_simp
                                  with_reducible rfl
                                rotate_left
                                · simp only [Act.put, List.setIfInBounds_toArray, List.set_cons_zero, List.set_cons_succ, i64_w, i32_w]
                                  rfl
                                refine take_ (i := 6) (N := some 94) (v := ?_) (a' := ?_) #[true, true, true, true, true, true, true, false] rfl rfl (take_ofW HT_.out HW_.out (by kernel_rfl)) (fun _ _ _ h => h) (Or.inl ⟨by rfl, ?_⟩) hHeld ?_ ?_
                                rotate_left
                                · rintro w' ⟨s0, s1, s2, s3, s4, s5⟩
                                  go_simp
                                  with_reducible rfl
                                rotate_left
                                · simp only [Act.put, List.setIfInBounds_toArray, List.set_cons_zero, List.set_cons_succ, i64_w, i32_w]
                                  rfl
                                refine pure_ (i := 7) (N := some 95) (v := ?_) (a' := ?_) #[true, true, true, true, true, true, true, true] rfl rfl (any_of HT_.out (by kernel_rfl)) (fun _ _ _ h => h) (Or.inl ⟨by rfl, ?_⟩) ?_ ?_
                                rotate_left
                                · intro w'
                                  go_simp
                                  with_reducible rfl
                                rotate_left
                                · simp only [Act.put, List.setIfInBounds_toArray, List.set_cons_zero, List.set_cons_succ, i64_w, i32_w]
                                  rfl
                                refine done_ (done_of HT_.out (by kernel_rfl)) ?_
                                try go_wp2
                                have n0_ := Aside0.mk (Kd.Q_drew HO_5.out)
                                have n1_ := Aside0.mk (blk_drew BK156.out)
                                have n2_ := Aside0.mk (blk_drew BK169.out)
                                have n3_ := Aside0.mk (below_drew1 HB.out)
                                clear HO_5
                                clear BK156
                                clear BK169
                                clear HB
                                have HO_5 := n0_
                                have BK156 := n1_
                                have BK169 := n2_
                                have HB := n3_
                                clear n0_ n1_ n2_ n3_
                                have p173 : 0 ≤ (x11_5 : Int) := of_decide_eq_true (by first | (with_reducible assumption) | assumption)
                                have q173 : x11_5 < (t162.length : Int) := of_decide_eq_true (by first | (with_reducible assumption) | assumption)
                                obtain ⟨ad173, e173, hx173_0, hx173_1, hx173_2⟩ := at_T25 (Kd.Q_reads' HO_5.out).2.2 x11_5 p173 q173
                                obtain rfl : ad171 = ad173 := (by injection e173)
                                replace p173 := eq_true p173
                                replace q173 := eq_true q173
                                refine start_ (n := 8) (S := fun w' => w'.cell? ⟨gb169, 0, none⟩ = some (.int .i64 t165) ∧ w'.cell? ⟨gb169, 1, none⟩ = some (.int .i64 t166) ∧ w'.cell? ⟨gb169, 2, none⟩ = some (.int .i64 t167) ∧ w'.cell? (ad171.add ((x11_5).toNat * 3)) = some (.int .i64 ((rd_T25 t162 x11_5).f0)) ∧ w'.cell? ⟨(ad171.add ((x11_5).toNat * 3)).block, (ad171.add ((x11_5).toNat * 3)).off + 1, none⟩ = some (.int .i64 ((rd_T25 t162 x11_5).f1)) ∧ w'.cell? ⟨(ad171.add ((x11_5).toNat * 3)).block, (ad171.add ((x11_5).toNat * 3)).off + 2, none⟩ = some (.int .i64 ((rd_T25 t162 x11_5).f2))) (ds := []) #[false, false, false, false, false, false, false, false] (by kernel_rfl) rfl rfl ⟨(blk_cell BK169.out 0).trans rfl, (blk_cell BK169.out 1).trans rfl, (blk_cell BK169.out 2).trans rfl, hx173_0, hx173_1, hx173_2⟩ (fun hHeld => ?_); refine with_tabW gimballaw13_MedianMiddle.tab17 gimballaw13_MedianMiddle.bits17 (fun HT_ HW_ => ?_)
                                generalize w49.drew = w50 at HO_5 BK156 BK169 HB hx173_0 hx173_1 hx173_2 hHeld ⊢
                                refine pure_ (i := 0) (N := some 98) (v := ?_) (a' := ?_) #[true, false, false, false, false, false, false, false] rfl rfl (any_of HT_.out (by kernel_rfl)) (fun _ _ _ h => h) (Or.inl ⟨by rfl, ?_⟩) ?_ ?_
                                rotate_left
                                · intro w'
                                  go_simp
                                  with_reducible rfl
                                rotate_left
                                · simp only [Act.put, List.setIfInBounds_toArray, List.set_cons_zero, List.set_cons_succ, i64_w, i32_w]
                                  rfl
                                refine pure_ (i := 1) (N := some 99) (v := ?_) (a' := ?_) #[true, true, false, false, false, false, false, false] rfl rfl (any_of HT_.out (by kernel_rfl)) (fun _ _ _ h => h) (Or.inl ⟨by rfl, ?_⟩) ?_ ?_
                                rotate_left
                                · intro w'
                                  go_simp
                                  with_reducible rfl
                                rotate_left
                                · simp only [Act.put, List.setIfInBounds_toArray, List.set_cons_zero, List.set_cons_succ, i64_w, i32_w]
                                  rfl
                                refine pure_ (i := 2) (N := some 100) (v := ?_) (a' := ?_) #[true, true, true, false, false, false, false, false] rfl rfl (any_of HT_.out (by kernel_rfl)) (fun _ _ _ h => h) (Or.inl ⟨by rfl, ?_⟩) ?_ ?_
                                rotate_left
                                · intro w'
                                  go_simp
                                  with_reducible rfl
                                rotate_left
                                · simp only [Act.put, List.setIfInBounds_toArray, List.set_cons_zero, List.set_cons_succ, i64_w, i32_w]
                                  rfl
                                refine pure_ (i := 3) (N := some 101) (v := ?_) (a' := ?_) #[true, true, true, true, false, false, false, false] rfl rfl (any_of HT_.out (by kernel_rfl)) (fun _ _ _ h => h) (Or.inl ⟨by rfl, ?_⟩) ?_ ?_
                                rotate_left
                                · intro w'
                                  go_simp
                                  with_reducible rfl
                                rotate_left
                                · simp only [Act.put, List.setIfInBounds_toArray, List.set_cons_zero, List.set_cons_succ, i64_w, i32_w]
                                  rfl
                                refine pure_ (i := 5) (N := some 103) (v := ?_) (a' := ?_) #[true, true, true, true, false, true, false, false] rfl rfl (any_of HT_.out (by kernel_rfl)) (fun _ _ _ h => h) (Or.inl ⟨by rfl, ?_⟩) ?_ ?_
                                rotate_left
                                · intro w'
                                  go_simp
                                  with_reducible rfl
                                rotate_left
                                · simp only [Act.put, List.setIfInBounds_toArray, List.set_cons_zero, List.set_cons_succ, i64_w, i32_w]
                                  rfl
                                refine take_ (i := 4) (N := some 102) (v := ?_) (a' := ?_) #[true, true, true, true, true, true, false, false] rfl rfl (take_ofW HT_.out HW_.out (by kernel_rfl)) (fun _ _ _ h => h) (Or.inl ⟨by rfl, ?_⟩) hHeld ?_ ?_
                                rotate_left
                                · rintro w' ⟨s0, s1, s2, s3, s4, s5⟩
                                  go_simp
                                  with_reducible rfl
                                rotate_left
                                · simp only [Act.put, List.setIfInBounds_toArray, List.set_cons_zero, List.set_cons_succ, i64_w, i32_w]
                                  rfl
                                refine take_ (i := 6) (N := some 104) (v := ?_) (a' := ?_) #[true, true, true, true, true, true, true, false] rfl rfl (take_ofW HT_.out HW_.out (by kernel_rfl)) (fun _ _ _ h => h) (Or.inl ⟨by rfl, ?_⟩) hHeld ?_ ?_
                                rotate_left
                                · rintro w' ⟨s0, s1, s2, s3, s4, s5⟩
                                  go_simp
                                  with_reducible rfl
                                rotate_left
                                · simp only [Act.put, List.setIfInBounds_toArray, List.set_cons_zero, List.set_cons_succ, i64_w, i32_w]
                                  rfl
                                refine pure_ (i := 7) (N := some 105) (v := ?_) (a' := ?_) #[true, true, true, true, true, true, true, true] rfl rfl (any_of HT_.out (by kernel_rfl)) (fun _ _ _ h => h) (Or.inl ⟨by rfl, ?_⟩) ?_ ?_
                                rotate_left
                                · intro w'
                                  go_simp
                                  with_reducible rfl
                                rotate_left
                                · simp only [Act.put, List.setIfInBounds_toArray, List.set_cons_zero, List.set_cons_succ, i64_w, i32_w]
                                  rfl
                                refine done_ (done_of HT_.out (by kernel_rfl)) ?_
                                try go_wp2
                                go_roundg kj38
                                case measure => have := HK1.out; have := HJ1.out; have := HJ6.out; have := HJ21.out; have := HK5.out; have := HJ38.out; omega
                                case rel => exact ⟨(x8_38), (wrap64 (x9_5 + 1)), (x10_5), (wrap64 (x11_5 + 1)), (by first | rfl | (simp; done) | (simp [*]; done)), (by first | rfl | (simp; done) | (simp [*]; done)), (by first | rfl | (simp; done) | (simp [*]; done)), (by first | rfl | (simp; done) | (simp [*]; done)), H', ⟨by have := HK1.out; have := HJ1.out; have := HJ6.out; have := HJ21.out; have := HK5.out; have := HJ38.out; omega⟩, ⟨by (with_reducible repeat (first | apply Kd.Q_alloc | apply Kd.Q_drewN | apply Kd.Q_drew)); exact HO_5.out⟩, ⟨by (with_reducible repeat (first | refine blk_drewN ?_ _ | refine blk_drew ?_ | refine blk_alloc ?_ _)); exact BK156.out⟩, ⟨by (with_reducible repeat (first | refine blk_drewN ?_ _ | refine blk_drew ?_ | refine blk_alloc ?_ _)); exact BK169.out⟩, ⟨by repeat (first | (with_reducible first | exact HB.out | apply below_alloc | apply pw_below_drewN | apply below_drew1 | refine below_set ?_ GE156.out | refine below_set ?_ GE169.out) | exact HB.out)⟩⟩
                              rw [if_neg c45] at H
                              have c45b0 : decide (t166 < ((rd_T25 t162 x11_5).f1)) = false := decide_eq_false c45
                              clear c45
                              by_cases c51 : ((rd_T25 t162 x11_5).f1) = t166
                              · rw [if_pos c51] at H
                                have c51b0 : (((rd_T25 t162 x11_5).f1) == t166) = true := beq_iff_eq.mpr c51
                                have c51b1 : (((rd_T25 t162 x11_5).f1) != t166) = false := bne_eq_false_iff_eq.mpr c51
                                clear c51
                                have H' := Aside0.mk H
                                clear H
                                try go_wp2
                                have n0_ := Aside0.mk (Kd.Q_drew HO_5.out)
                                have n1_ := Aside0.mk (blk_drew BK156.out)
                                have n2_ := Aside0.mk (blk_drew BK169.out)
                                have n3_ := Aside0.mk (below_drew1 HB.out)
                                clear HO_5
                                clear BK156
                                clear BK169
                                clear HB
                                have HO_5 := n0_
                                have BK156 := n1_
                                have BK169 := n2_
                                have HB := n3_
                                clear n0_ n1_ n2_ n3_
                                have p172 : 0 ≤ (x11_5 : Int) := of_decide_eq_true (by first | (with_reducible assumption) | assumption)
                                have q172 : x11_5 < (t162.length : Int) := of_decide_eq_true (by first | (with_reducible assumption) | assumption)
                                obtain ⟨ad172, e172, hx172_0, hx172_1, hx172_2⟩ := at_T25 (Kd.Q_reads' HO_5.out).2.2 x11_5 p172 q172
                                obtain rfl : ad171 = ad172 := (by injection e172)
                                replace p172 := eq_true p172
                                replace q172 := eq_true q172
                                refine start_ (n := 8) (S := fun w' => w'.cell? ⟨gb169, 0, none⟩ = some (.int .i64 t165) ∧ w'.cell? ⟨gb169, 1, none⟩ = some (.int .i64 t166) ∧ w'.cell? ⟨gb169, 2, none⟩ = some (.int .i64 t167) ∧ w'.cell? (ad171.add ((x11_5).toNat * 3)) = some (.int .i64 ((rd_T25 t162 x11_5).f0)) ∧ w'.cell? ⟨(ad171.add ((x11_5).toNat * 3)).block, (ad171.add ((x11_5).toNat * 3)).off + 1, none⟩ = some (.int .i64 ((rd_T25 t162 x11_5).f1)) ∧ w'.cell? ⟨(ad171.add ((x11_5).toNat * 3)).block, (ad171.add ((x11_5).toNat * 3)).off + 2, none⟩ = some (.int .i64 ((rd_T25 t162 x11_5).f2))) (ds := []) #[false, false, false, false, false, false, false, false] (by kernel_rfl) rfl rfl ⟨(blk_cell BK169.out 0).trans rfl, (blk_cell BK169.out 1).trans rfl, (blk_cell BK169.out 2).trans rfl, hx172_0, hx172_1, hx172_2⟩ (fun hHeld => ?_); refine with_tabW gimballaw13_MedianMiddle.tab15 gimballaw13_MedianMiddle.bits15 (fun HT_ HW_ => ?_)
                                generalize wc.drew = w52 at HO_5 BK156 BK169 HB hx172_0 hx172_1 hx172_2 hHeld ⊢
                                refine pure_ (i := 0) (N := some 88) (v := ?_) (a' := ?_) #[true, false, false, false, false, false, false, false] rfl rfl (any_of HT_.out (by kernel_rfl)) (fun _ _ _ h => h) (Or.inl ⟨by rfl, ?_⟩) ?_ ?_
                                rotate_left
                                · intro w'
                                  go_simp
                                  with_reducible rfl
                                rotate_left
                                · simp only [Act.put, List.setIfInBounds_toArray, List.set_cons_zero, List.set_cons_succ, i64_w, i32_w]
                                  rfl
                                refine pure_ (i := 1) (N := some 89) (v := ?_) (a' := ?_) #[true, true, false, false, false, false, false, false] rfl rfl (any_of HT_.out (by kernel_rfl)) (fun _ _ _ h => h) (Or.inl ⟨by rfl, ?_⟩) ?_ ?_
                                rotate_left
                                · intro w'
                                  go_simp
                                  with_reducible rfl
                                rotate_left
                                · simp only [Act.put, List.setIfInBounds_toArray, List.set_cons_zero, List.set_cons_succ, i64_w, i32_w]
                                  rfl
                                refine pure_ (i := 2) (N := some 90) (v := ?_) (a' := ?_) #[true, true, true, false, false, false, false, false] rfl rfl (any_of HT_.out (by kernel_rfl)) (fun _ _ _ h => h) (Or.inl ⟨by rfl, ?_⟩) ?_ ?_
                                rotate_left
                                · intro w'
                                  go_simp
                                  with_reducible rfl
                                rotate_left
                                · simp only [Act.put, List.setIfInBounds_toArray, List.set_cons_zero, List.set_cons_succ, i64_w, i32_w]
                                  rfl
                                refine pure_ (i := 3) (N := some 91) (v := ?_) (a' := ?_) #[true, true, true, true, false, false, false, false] rfl rfl (any_of HT_.out (by kernel_rfl)) (fun _ _ _ h => h) (Or.inl ⟨by rfl, ?_⟩) ?_ ?_
                                rotate_left
                                · intro w'
                                  go_simp
                                  with_reducible rfl
                                rotate_left
                                · simp only [Act.put, List.setIfInBounds_toArray, List.set_cons_zero, List.set_cons_succ, i64_w, i32_w]
                                  rfl
                                refine pure_ (i := 5) (N := some 93) (v := ?_) (a' := ?_) #[true, true, true, true, false, true, false, false] rfl rfl (any_of HT_.out (by kernel_rfl)) (fun _ _ _ h => h) (Or.inl ⟨by rfl, ?_⟩) ?_ ?_
                                rotate_left
                                · intro w'
                                  go_simp
                                  with_reducible rfl
                                rotate_left
                                · simp only [Act.put, List.setIfInBounds_toArray, List.set_cons_zero, List.set_cons_succ, i64_w, i32_w]
                                  rfl
                                refine take_ (i := 4) (N := some 92) (v := ?_) (a' := ?_) #[true, true, true, true, true, true, false, false] rfl rfl (take_ofW HT_.out HW_.out (by kernel_rfl)) (fun _ _ _ h => h) (Or.inl ⟨by rfl, ?_⟩) hHeld ?_ ?_
                                rotate_left
                                · rintro w' ⟨s0, s1, s2, s3, s4, s5⟩
                                  go_simp
                                  with_reducible rfl
                                rotate_left
                                · simp only [Act.put, List.setIfInBounds_toArray, List.set_cons_zero, List.set_cons_succ, i64_w, i32_w]
                                  rfl
                                refine take_ (i := 6) (N := some 94) (v := ?_) (a' := ?_) #[true, true, true, true, true, true, true, false] rfl rfl (take_ofW HT_.out HW_.out (by kernel_rfl)) (fun _ _ _ h => h) (Or.inl ⟨by rfl, ?_⟩) hHeld ?_ ?_
                                rotate_left
                                · rintro w' ⟨s0, s1, s2, s3, s4, s5⟩
                                  go_simp
                                  with_reducible rfl
                                rotate_left
                                · simp only [Act.put, List.setIfInBounds_toArray, List.set_cons_zero, List.set_cons_succ, i64_w, i32_w]
                                  rfl
                                refine pure_ (i := 7) (N := some 95) (v := ?_) (a' := ?_) #[true, true, true, true, true, true, true, true] rfl rfl (any_of HT_.out (by kernel_rfl)) (fun _ _ _ h => h) (Or.inl ⟨by rfl, ?_⟩) ?_ ?_
                                rotate_left
                                · intro w'
                                  go_simp
                                  with_reducible rfl
                                rotate_left
                                · simp only [Act.put, List.setIfInBounds_toArray, List.set_cons_zero, List.set_cons_succ, i64_w, i32_w]
                                  rfl
                                refine done_ (done_of HT_.out (by kernel_rfl)) ?_
                                try go_wp2
                                have n0_ := Aside0.mk (Kd.Q_drew HO_5.out)
                                have n1_ := Aside0.mk (blk_drew BK156.out)
                                have n2_ := Aside0.mk (blk_drew BK169.out)
                                have n3_ := Aside0.mk (below_drew1 HB.out)
                                clear HO_5
                                clear BK156
                                clear BK169
                                clear HB
                                have HO_5 := n0_
                                have BK156 := n1_
                                have BK169 := n2_
                                have HB := n3_
                                clear n0_ n1_ n2_ n3_
                                have p174 : 0 ≤ (x11_5 : Int) := of_decide_eq_true (by first | (with_reducible assumption) | assumption)
                                have q174 : x11_5 < (t162.length : Int) := of_decide_eq_true (by first | (with_reducible assumption) | assumption)
                                obtain ⟨ad174, e174, hx174_0, hx174_1, hx174_2⟩ := at_T25 (Kd.Q_reads' HO_5.out).2.2 x11_5 p174 q174
                                obtain rfl : ad171 = ad174 := (by injection e174)
                                replace p174 := eq_true p174
                                replace q174 := eq_true q174
                                refine start_ (n := 8) (S := fun w' => w'.cell? ⟨gb169, 0, none⟩ = some (.int .i64 t165) ∧ w'.cell? ⟨gb169, 1, none⟩ = some (.int .i64 t166) ∧ w'.cell? ⟨gb169, 2, none⟩ = some (.int .i64 t167) ∧ w'.cell? (ad171.add ((x11_5).toNat * 3)) = some (.int .i64 ((rd_T25 t162 x11_5).f0)) ∧ w'.cell? ⟨(ad171.add ((x11_5).toNat * 3)).block, (ad171.add ((x11_5).toNat * 3)).off + 1, none⟩ = some (.int .i64 ((rd_T25 t162 x11_5).f1)) ∧ w'.cell? ⟨(ad171.add ((x11_5).toNat * 3)).block, (ad171.add ((x11_5).toNat * 3)).off + 2, none⟩ = some (.int .i64 ((rd_T25 t162 x11_5).f2))) (ds := []) #[false, false, false, false, false, false, false, false] (by kernel_rfl) rfl rfl ⟨(blk_cell BK169.out 0).trans rfl, (blk_cell BK169.out 1).trans rfl, (blk_cell BK169.out 2).trans rfl, hx174_0, hx174_1, hx174_2⟩ (fun hHeld => ?_); refine with_tabW gimballaw13_MedianMiddle.tab17 gimballaw13_MedianMiddle.bits17 (fun HT_ HW_ => ?_)
                                generalize w52.drew = w53 at HO_5 BK156 BK169 HB hx174_0 hx174_1 hx174_2 hHeld ⊢
                                refine pure_ (i := 0) (N := some 98) (v := ?_) (a' := ?_) #[true, false, false, false, false, false, false, false] rfl rfl (any_of HT_.out (by kernel_rfl)) (fun _ _ _ h => h) (Or.inl ⟨by rfl, ?_⟩) ?_ ?_
                                rotate_left
                                · intro w'
                                  go_simp
                                  with_reducible rfl
                                rotate_left
                                · simp only [Act.put, List.setIfInBounds_toArray, List.set_cons_zero, List.set_cons_succ, i64_w, i32_w]
                                  rfl
                                refine pure_ (i := 1) (N := some 99) (v := ?_) (a' := ?_) #[true, true, false, false, false, false, false, false] rfl rfl (any_of HT_.out (by kernel_rfl)) (fun _ _ _ h => h) (Or.inl ⟨by rfl, ?_⟩) ?_ ?_
                                rotate_left
                                · intro w'
                                  go_simp
                                  with_reducible rfl
                                rotate_left
                                · simp only [Act.put, List.setIfInBounds_toArray, List.set_cons_zero, List.set_cons_succ, i64_w, i32_w]
                                  rfl
                                refine pure_ (i := 2) (N := some 100) (v := ?_) (a' := ?_) #[true, true, true, false, false, false, false, false] rfl rfl (any_of HT_.out (by kernel_rfl)) (fun _ _ _ h => h) (Or.inl ⟨by rfl, ?_⟩) ?_ ?_
                                rotate_left
                                · intro w'
                                  go_simp
                                  with_reducible rfl
                                rotate_left
                                · simp only [Act.put, List.setIfInBounds_toArray, List.set_cons_zero, List.set_cons_succ, i64_w, i32_w]
                                  rfl
                                refine pure_ (i := 3) (N := some 101) (v := ?_) (a' := ?_) #[true, true, true, true, false, false, false, false] rfl rfl (any_of HT_.out (by kernel_rfl)) (fun _ _ _ h => h) (Or.inl ⟨by rfl, ?_⟩) ?_ ?_
                                rotate_left
                                · intro w'
                                  go_simp
                                  with_reducible rfl
                                rotate_left
                                · simp only [Act.put, List.setIfInBounds_toArray, List.set_cons_zero, List.set_cons_succ, i64_w, i32_w]
                                  rfl
                                refine pure_ (i := 5) (N := some 103) (v := ?_) (a' := ?_) #[true, true, true, true, false, true, false, false] rfl rfl (any_of HT_.out (by kernel_rfl)) (fun _ _ _ h => h) (Or.inl ⟨by rfl, ?_⟩) ?_ ?_
                                rotate_left
                                · intro w'
                                  go_simp
                                  with_reducible rfl
                                rotate_left
                                · simp only [Act.put, List.setIfInBounds_toArray, List.set_cons_zero, List.set_cons_succ, i64_w, i32_w]
                                  rfl
                                refine take_ (i := 4) (N := some 102) (v := ?_) (a' := ?_) #[true, true, true, true, true, true, false, false] rfl rfl (take_ofW HT_.out HW_.out (by kernel_rfl)) (fun _ _ _ h => h) (Or.inl ⟨by rfl, ?_⟩) hHeld ?_ ?_
                                rotate_left
                                · rintro w' ⟨s0, s1, s2, s3, s4, s5⟩
                                  go_simp
                                  with_reducible rfl
                                rotate_left
                                · simp only [Act.put, List.setIfInBounds_toArray, List.set_cons_zero, List.set_cons_succ, i64_w, i32_w]
                                  rfl
                                refine take_ (i := 6) (N := some 104) (v := ?_) (a' := ?_) #[true, true, true, true, true, true, true, false] rfl rfl (take_ofW HT_.out HW_.out (by kernel_rfl)) (fun _ _ _ h => h) (Or.inl ⟨by rfl, ?_⟩) hHeld ?_ ?_
                                rotate_left
                                · rintro w' ⟨s0, s1, s2, s3, s4, s5⟩
                                  go_simp
                                  with_reducible rfl
                                rotate_left
                                · simp only [Act.put, List.setIfInBounds_toArray, List.set_cons_zero, List.set_cons_succ, i64_w, i32_w]
                                  rfl
                                refine pure_ (i := 7) (N := some 105) (v := ?_) (a' := ?_) #[true, true, true, true, true, true, true, true] rfl rfl (any_of HT_.out (by kernel_rfl)) (fun _ _ _ h => h) (Or.inl ⟨by rfl, ?_⟩) ?_ ?_
                                rotate_left
                                · intro w'
                                  go_simp
                                  with_reducible rfl
                                rotate_left
                                · simp only [Act.put, List.setIfInBounds_toArray, List.set_cons_zero, List.set_cons_succ, i64_w, i32_w]
                                  rfl
                                refine done_ (done_of HT_.out (by kernel_rfl)) ?_
                                try go_wp2
                                go_roundg kj38
                                case measure => have := HK1.out; have := HJ1.out; have := HJ6.out; have := HJ21.out; have := HK5.out; have := HJ38.out; omega
                                case rel => exact ⟨(x8_38), (x9_5), (wrap64 (x10_5 + 1)), (wrap64 (x11_5 + 1)), (by first | rfl | (simp; done) | (simp [*]; done)), (by first | rfl | (simp; done) | (simp [*]; done)), (by first | rfl | (simp; done) | (simp [*]; done)), (by first | rfl | (simp; done) | (simp [*]; done)), H', ⟨by have := HK1.out; have := HJ1.out; have := HJ6.out; have := HJ21.out; have := HK5.out; have := HJ38.out; omega⟩, ⟨by (with_reducible repeat (first | apply Kd.Q_alloc | apply Kd.Q_drewN | apply Kd.Q_drew)); exact HO_5.out⟩, ⟨by (with_reducible repeat (first | refine blk_drewN ?_ _ | refine blk_drew ?_ | refine blk_alloc ?_ _)); exact BK156.out⟩, ⟨by (with_reducible repeat (first | refine blk_drewN ?_ _ | refine blk_drew ?_ | refine blk_alloc ?_ _)); exact BK169.out⟩, ⟨by repeat (first | (with_reducible first | exact HB.out | apply below_alloc | apply pw_below_drewN | apply below_drew1 | refine below_set ?_ GE156.out | refine below_set ?_ GE169.out) | exact HB.out)⟩⟩
                              rw [if_neg c51] at H
                              have c51b0 : (((rd_T25 t162 x11_5).f1) == t166) = false := beq_eq_false_iff_ne.mpr c51
                              have c51b1 : (((rd_T25 t162 x11_5).f1) != t166) = true := bne_iff_ne.mpr c51
                              have H' := Aside0.mk H
                              clear H
                              try go_wp2
                              have n0_ := Aside0.mk (Kd.Q_drew HO_5.out)
                              have n1_ := Aside0.mk (blk_drew BK156.out)
                              have n2_ := Aside0.mk (blk_drew BK169.out)
                              have n3_ := Aside0.mk (below_drew1 HB.out)
                              clear HO_5
                              clear BK156
                              clear BK169
                              clear HB
                              have HO_5 := n0_
                              have BK156 := n1_
                              have BK169 := n2_
                              have HB := n3_
                              clear n0_ n1_ n2_ n3_
                              have p172 : 0 ≤ (x11_5 : Int) := of_decide_eq_true (by first | (with_reducible assumption) | assumption)
                              have q172 : x11_5 < (t162.length : Int) := of_decide_eq_true (by first | (with_reducible assumption) | assumption)
                              obtain ⟨ad172, e172, hx172_0, hx172_1, hx172_2⟩ := at_T25 (Kd.Q_reads' HO_5.out).2.2 x11_5 p172 q172
                              obtain rfl : ad171 = ad172 := (by injection e172)
                              replace p172 := eq_true p172
                              replace q172 := eq_true q172
                              refine start_ (n := 8) (S := fun w' => w'.cell? ⟨gb169, 0, none⟩ = some (.int .i64 t165) ∧ w'.cell? ⟨gb169, 1, none⟩ = some (.int .i64 t166) ∧ w'.cell? ⟨gb169, 2, none⟩ = some (.int .i64 t167) ∧ w'.cell? (ad171.add ((x11_5).toNat * 3)) = some (.int .i64 ((rd_T25 t162 x11_5).f0)) ∧ w'.cell? ⟨(ad171.add ((x11_5).toNat * 3)).block, (ad171.add ((x11_5).toNat * 3)).off + 1, none⟩ = some (.int .i64 ((rd_T25 t162 x11_5).f1)) ∧ w'.cell? ⟨(ad171.add ((x11_5).toNat * 3)).block, (ad171.add ((x11_5).toNat * 3)).off + 2, none⟩ = some (.int .i64 ((rd_T25 t162 x11_5).f2))) (ds := []) #[false, false, false, false, false, false, false, false] (by kernel_rfl) rfl rfl ⟨(blk_cell BK169.out 0).trans rfl, (blk_cell BK169.out 1).trans rfl, (blk_cell BK169.out 2).trans rfl, hx172_0, hx172_1, hx172_2⟩ (fun hHeld => ?_); refine with_tabW gimballaw13_MedianMiddle.tab15 gimballaw13_MedianMiddle.bits15 (fun HT_ HW_ => ?_)
                              generalize wc.drew = w54 at HO_5 BK156 BK169 HB hx172_0 hx172_1 hx172_2 hHeld ⊢
                              refine pure_ (i := 0) (N := some 88) (v := ?_) (a' := ?_) #[true, false, false, false, false, false, false, false] rfl rfl (any_of HT_.out (by kernel_rfl)) (fun _ _ _ h => h) (Or.inl ⟨by rfl, ?_⟩) ?_ ?_
                              rotate_left
                              · intro w'
                                go_simp
                                with_reducible rfl
                              rotate_left
                              · simp only [Act.put, List.setIfInBounds_toArray, List.set_cons_zero, List.set_cons_succ, i64_w, i32_w]
                                rfl
                              refine pure_ (i := 1) (N := some 89) (v := ?_) (a' := ?_) #[true, true, false, false, false, false, false, false] rfl rfl (any_of HT_.out (by kernel_rfl)) (fun _ _ _ h => h) (Or.inl ⟨by rfl, ?_⟩) ?_ ?_
                              rotate_left
                              · intro w'
                                go_simp
                                with_reducible rfl
                              rotate_left
                              · simp only [Act.put, List.setIfInBounds_toArray, List.set_cons_zero, List.set_cons_succ, i64_w, i32_w]
                                rfl
                              refine pure_ (i := 2) (N := some 90) (v := ?_) (a' := ?_) #[true, true, true, false, false, false, false, false] rfl rfl (any_of HT_.out (by kernel_rfl)) (fun _ _ _ h => h) (Or.inl ⟨by rfl, ?_⟩) ?_ ?_
                              rotate_left
                              · intro w'
                                go_simp
                                with_reducible rfl
                              rotate_left
                              · simp only [Act.put, List.setIfInBounds_toArray, List.set_cons_zero, List.set_cons_succ, i64_w, i32_w]
                                rfl
                              refine pure_ (i := 3) (N := some 91) (v := ?_) (a' := ?_) #[true, true, true, true, false, false, false, false] rfl rfl (any_of HT_.out (by kernel_rfl)) (fun _ _ _ h => h) (Or.inl ⟨by rfl, ?_⟩) ?_ ?_
                              rotate_left
                              · intro w'
                                go_simp
                                with_reducible rfl
                              rotate_left
                              · simp only [Act.put, List.setIfInBounds_toArray, List.set_cons_zero, List.set_cons_succ, i64_w, i32_w]
                                rfl
                              refine pure_ (i := 5) (N := some 93) (v := ?_) (a' := ?_) #[true, true, true, true, false, true, false, false] rfl rfl (any_of HT_.out (by kernel_rfl)) (fun _ _ _ h => h) (Or.inl ⟨by rfl, ?_⟩) ?_ ?_
                              rotate_left
                              · intro w'
                                go_simp
                                with_reducible rfl
                              rotate_left
                              · simp only [Act.put, List.setIfInBounds_toArray, List.set_cons_zero, List.set_cons_succ, i64_w, i32_w]
                                rfl
                              refine take_ (i := 4) (N := some 92) (v := ?_) (a' := ?_) #[true, true, true, true, true, true, false, false] rfl rfl (take_ofW HT_.out HW_.out (by kernel_rfl)) (fun _ _ _ h => h) (Or.inl ⟨by rfl, ?_⟩) hHeld ?_ ?_
                              rotate_left
                              · rintro w' ⟨s0, s1, s2, s3, s4, s5⟩
                                go_simp
                                with_reducible rfl
                              rotate_left
                              · simp only [Act.put, List.setIfInBounds_toArray, List.set_cons_zero, List.set_cons_succ, i64_w, i32_w]
                                rfl
                              refine take_ (i := 6) (N := some 94) (v := ?_) (a' := ?_) #[true, true, true, true, true, true, true, false] rfl rfl (take_ofW HT_.out HW_.out (by kernel_rfl)) (fun _ _ _ h => h) (Or.inl ⟨by rfl, ?_⟩) hHeld ?_ ?_
                              rotate_left
                              · rintro w' ⟨s0, s1, s2, s3, s4, s5⟩
                                go_simp
                                with_reducible rfl
                              rotate_left
                              · simp only [Act.put, List.setIfInBounds_toArray, List.set_cons_zero, List.set_cons_succ, i64_w, i32_w]
                                rfl
                              refine pure_ (i := 7) (N := some 95) (v := ?_) (a' := ?_) #[true, true, true, true, true, true, true, true] rfl rfl (any_of HT_.out (by kernel_rfl)) (fun _ _ _ h => h) (Or.inl ⟨by rfl, ?_⟩) ?_ ?_
                              rotate_left
                              · intro w'
                                go_simp
                                with_reducible rfl
                              rotate_left
                              · simp only [Act.put, List.setIfInBounds_toArray, List.set_cons_zero, List.set_cons_succ, i64_w, i32_w]
                                rfl
                              refine done_ (done_of HT_.out (by kernel_rfl)) ?_
                              try go_wp2
                              have n0_ := Aside0.mk (Kd.Q_drew HO_5.out)
                              have n1_ := Aside0.mk (blk_drew BK156.out)
                              have n2_ := Aside0.mk (blk_drew BK169.out)
                              have n3_ := Aside0.mk (below_drew1 HB.out)
                              clear HO_5
                              clear BK156
                              clear BK169
                              clear HB
                              have HO_5 := n0_
                              have BK156 := n1_
                              have BK169 := n2_
                              have HB := n3_
                              clear n0_ n1_ n2_ n3_
                              have p174 : 0 ≤ (x11_5 : Int) := of_decide_eq_true (by first | (with_reducible assumption) | assumption)
                              have q174 : x11_5 < (t162.length : Int) := of_decide_eq_true (by first | (with_reducible assumption) | assumption)
                              obtain ⟨ad174, e174, hx174_0, hx174_1, hx174_2⟩ := at_T25 (Kd.Q_reads' HO_5.out).2.2 x11_5 p174 q174
                              obtain rfl : ad171 = ad174 := (by injection e174)
                              replace p174 := eq_true p174
                              replace q174 := eq_true q174
                              refine start_ (n := 8) (S := fun w' => w'.cell? ⟨gb169, 0, none⟩ = some (.int .i64 t165) ∧ w'.cell? ⟨gb169, 1, none⟩ = some (.int .i64 t166) ∧ w'.cell? ⟨gb169, 2, none⟩ = some (.int .i64 t167) ∧ w'.cell? (ad171.add ((x11_5).toNat * 3)) = some (.int .i64 ((rd_T25 t162 x11_5).f0)) ∧ w'.cell? ⟨(ad171.add ((x11_5).toNat * 3)).block, (ad171.add ((x11_5).toNat * 3)).off + 1, none⟩ = some (.int .i64 ((rd_T25 t162 x11_5).f1)) ∧ w'.cell? ⟨(ad171.add ((x11_5).toNat * 3)).block, (ad171.add ((x11_5).toNat * 3)).off + 2, none⟩ = some (.int .i64 ((rd_T25 t162 x11_5).f2))) (ds := []) #[false, false, false, false, false, false, false, false] (by kernel_rfl) rfl rfl ⟨(blk_cell BK169.out 0).trans rfl, (blk_cell BK169.out 1).trans rfl, (blk_cell BK169.out 2).trans rfl, hx174_0, hx174_1, hx174_2⟩ (fun hHeld => ?_); refine with_tabW gimballaw13_MedianMiddle.tab17 gimballaw13_MedianMiddle.bits17 (fun HT_ HW_ => ?_)
                              generalize w54.drew = w55 at HO_5 BK156 BK169 HB hx174_0 hx174_1 hx174_2 hHeld ⊢
                              refine pure_ (i := 0) (N := some 98) (v := ?_) (a' := ?_) #[true, false, false, false, false, false, false, false] rfl rfl (any_of HT_.out (by kernel_rfl)) (fun _ _ _ h => h) (Or.inl ⟨by rfl, ?_⟩) ?_ ?_
                              rotate_left
                              · intro w'
                                go_simp
                                with_reducible rfl
                              rotate_left
                              · simp only [Act.put, List.setIfInBounds_toArray, List.set_cons_zero, List.set_cons_succ, i64_w, i32_w]
                                rfl
                              refine pure_ (i := 1) (N := some 99) (v := ?_) (a' := ?_) #[true, true, false, false, false, false, false, false] rfl rfl (any_of HT_.out (by kernel_rfl)) (fun _ _ _ h => h) (Or.inl ⟨by rfl, ?_⟩) ?_ ?_
                              rotate_left
                              · intro w'
                                go_simp
                                with_reducible rfl
                              rotate_left
                              · simp only [Act.put, List.setIfInBounds_toArray, List.set_cons_zero, List.set_cons_succ, i64_w, i32_w]
                                rfl
                              refine pure_ (i := 2) (N := some 100) (v := ?_) (a' := ?_) #[true, true, true, false, false, false, false, false] rfl rfl (any_of HT_.out (by kernel_rfl)) (fun _ _ _ h => h) (Or.inl ⟨by rfl, ?_⟩) ?_ ?_
                              rotate_left
                              · intro w'
                                go_simp
                                with_reducible rfl
                              rotate_left
                              · simp only [Act.put, List.setIfInBounds_toArray, List.set_cons_zero, List.set_cons_succ, i64_w, i32_w]
                                rfl
                              refine pure_ (i := 3) (N := some 101) (v := ?_) (a' := ?_) #[true, true, true, true, false, false, false, false] rfl rfl (any_of HT_.out (by kernel_rfl)) (fun _ _ _ h => h) (Or.inl ⟨by rfl, ?_⟩) ?_ ?_
                              rotate_left
                              · intro w'
                                go_simp
                                with_reducible rfl
                              rotate_left
                              · simp only [Act.put, List.setIfInBounds_toArray, List.set_cons_zero, List.set_cons_succ, i64_w, i32_w]
                                rfl
                              refine pure_ (i := 5) (N := some 103) (v := ?_) (a' := ?_) #[true, true, true, true, false, true, false, false] rfl rfl (any_of HT_.out (by kernel_rfl)) (fun _ _ _ h => h) (Or.inl ⟨by rfl, ?_⟩) ?_ ?_
                              rotate_left
                              · intro w'
                                go_simp
                                with_reducible rfl
                              rotate_left
                              · simp only [Act.put, List.setIfInBounds_toArray, List.set_cons_zero, List.set_cons_succ, i64_w, i32_w]
                                rfl
                              refine take_ (i := 4) (N := some 102) (v := ?_) (a' := ?_) #[true, true, true, true, true, true, false, false] rfl rfl (take_ofW HT_.out HW_.out (by kernel_rfl)) (fun _ _ _ h => h) (Or.inl ⟨by rfl, ?_⟩) hHeld ?_ ?_
                              rotate_left
                              · rintro w' ⟨s0, s1, s2, s3, s4, s5⟩
                                go_simp
                                with_reducible rfl
                              rotate_left
                              · simp only [Act.put, List.setIfInBounds_toArray, List.set_cons_zero, List.set_cons_succ, i64_w, i32_w]
                                rfl
                              refine take_ (i := 6) (N := some 104) (v := ?_) (a' := ?_) #[true, true, true, true, true, true, true, false] rfl rfl (take_ofW HT_.out HW_.out (by kernel_rfl)) (fun _ _ _ h => h) (Or.inl ⟨by rfl, ?_⟩) hHeld ?_ ?_
                              rotate_left
                              · rintro w' ⟨s0, s1, s2, s3, s4, s5⟩
                                go_simp
                                with_reducible rfl
                              rotate_left
                              · simp only [Act.put, List.setIfInBounds_toArray, List.set_cons_zero, List.set_cons_succ, i64_w, i32_w]
                                rfl
                              refine pure_ (i := 7) (N := some 105) (v := ?_) (a' := ?_) #[true, true, true, true, true, true, true, true] rfl rfl (any_of HT_.out (by kernel_rfl)) (fun _ _ _ h => h) (Or.inl ⟨by rfl, ?_⟩) ?_ ?_
                              rotate_left
                              · intro w'
                                go_simp
                                with_reducible rfl
                              rotate_left
                              · simp only [Act.put, List.setIfInBounds_toArray, List.set_cons_zero, List.set_cons_succ, i64_w, i32_w]
                                rfl
                              refine done_ (done_of HT_.out (by kernel_rfl)) ?_
                              try go_wp2
                              go_roundg kj38
                              case measure => have := HK1.out; have := HJ1.out; have := HJ6.out; have := HJ21.out; have := HK5.out; have := HJ38.out; omega
                              case rel => exact ⟨(x8_38), (x9_5), (x10_5), (wrap64 (x11_5 + 1)), (by first | rfl | (simp; done) | (simp [*]; done)), (by first | rfl | (simp; done) | (simp [*]; done)), (by first | rfl | (simp; done) | (simp [*]; done)), (by first | rfl | (simp; done) | (simp [*]; done)), H', ⟨by have := HK1.out; have := HJ1.out; have := HJ6.out; have := HJ21.out; have := HK5.out; have := HJ38.out; omega⟩, ⟨by (with_reducible repeat (first | apply Kd.Q_alloc | apply Kd.Q_drewN | apply Kd.Q_drew)); exact HO_5.out⟩, ⟨by (with_reducible repeat (first | refine blk_drewN ?_ _ | refine blk_drew ?_ | refine blk_alloc ?_ _)); exact BK156.out⟩, ⟨by (with_reducible repeat (first | refine blk_drewN ?_ _ | refine blk_drew ?_ | refine blk_alloc ?_ _)); exact BK169.out⟩, ⟨by repeat (first | (with_reducible first | exact HB.out | apply below_alloc | apply pw_below_drewN | apply below_drew1 | refine below_set ?_ GE156.out | refine below_set ?_ GE169.out) | exact HB.out)⟩⟩
                        rw [if_neg c37] at H
                        have c37b0 : decide (x11_5 < (t162.length : Int)) = false := decide_eq_false c37
                        clear c37
                        have HC56 := Aside0.mk H
                        clear H
                        obtain ⟨Ao57, co57, eo57, _⟩ := Kd.Q_slice HO_5.out
                        subst eo57
                        go_upto_region 19 with (fail)
                        go_cut [123] (fun v123 wc => ∃ (kq : Nat) (x123_55 : Bool), v123 = .bool x123_55 ∧ Aside0 (gimballaw13_MedianMiddle.j6 kq l0 x3_1 t162 x123_55 ((rd_T27 l0 x3_1).f0) ((rd_T27 l0 x3_1).f1) ((rd_T27 l0 x3_1).f2.f0) ((rd_T27 l0 x3_1).f2.f1) ((rd_T27 l0 x3_1).f2.f2) t165 t166 t167 = some r) ∧ Aside0 (kq ≤ k5) ∧ Aside0 (Kd.Q k25 25 wc w.heap.size (fun k_ => k_ ≠ gb169) (.slice Ao57 t162.length co57) t162) ∧ Aside0 (wc.heap[gb156]? = some (.cells #[(.slice A155_0 ((rd_T27 l0 x3_1).f0).length c155_0), .int .i64 ((rd_T27 l0 x3_1).f1), .int .i64 ((rd_T27 l0 x3_1).f2.f0), .int .i64 ((rd_T27 l0 x3_1).f2.f1), .int .i64 ((rd_T27 l0 x3_1).f2.f2)] 27 (0, 0))) ∧ Aside0 (wc.heap[gb169]? = some (.cells #[.int .i64 t165, .int .i64 t166, .int .i64 t167] 25 (0, 0))) ∧ Aside0 (Below w.heap.size w wc))
                        case first =>
                          have H := HC56.out
                          clear HC56
                          by_cases c58 : x10_5 = 0
                          · rw [if_pos c58] at H
                            have c58b0 : (x10_5 == 0) = true := beq_iff_eq.mpr c58
                            have c58b1 : (x10_5 != 0) = false := bne_eq_false_iff_eq.mpr c58
                            clear c58
                            (first | rw [c58b0] | (simp only [i64_w, i32_w]; rw [c58b0]) | skip)
                            have H' := Aside0.mk H
                            clear H
                            go_wp2
                            go_meet
                            case rel => exact ⟨_, (true), (by first | rfl | (simp; done) | (simp [*]; done)), H', ⟨by have := HK1.out; have := HJ1.out; have := HJ6.out; have := HJ21.out; have := HK5.out; first | omega | exact Nat.le_refl _⟩, ⟨by (with_reducible repeat (first | apply Kd.Q_alloc | apply Kd.Q_drewN | apply Kd.Q_drew)); exact HO_5.out⟩, ⟨by (with_reducible repeat (first | refine blk_drewN ?_ _ | refine blk_drew ?_ | refine blk_alloc ?_ _)); exact BK156.out⟩, ⟨by (with_reducible repeat (first | refine blk_drewN ?_ _ | refine blk_drew ?_ | refine blk_alloc ?_ _)); exact BK169.out⟩, ⟨by repeat (first | (with_reducible first | exact HB.out | apply below_alloc | apply pw_below_drewN | apply below_drew1 | refine below_set ?_ GE156.out | refine below_set ?_ GE169.out) | exact HB.out)⟩⟩
                          rw [if_neg c58] at H
                          have c58b0 : (x10_5 == 0) = false := beq_eq_false_iff_ne.mpr c58
                          have c58b1 : (x10_5 != 0) = true := bne_iff_ne.mpr c58
                          (first | rw [c58b0] | (simp only [i64_w, i32_w]; rw [c58b0]) | skip)
                          by_cases c59 : x8_5 > (wrap64 (Int.tdiv ((rd_T27 l0 x3_1).f1) 2))
                          · rw [if_pos c59] at H
                            have c59b0 : decide ((wrap64 (Int.tdiv ((rd_T27 l0 x3_1).f1) 2)) < x8_5) = true := decide_eq_true c59
                            clear c59
                            have H' := Aside0.mk H
                            clear H
                            have hnb60 := NB156_169.out
                            have hnc60 := NB169_156.out
                            have hcz61_0 : wr.cell? ⟨gb156, 0, none⟩ = some (.slice A155_0 ((rd_T27 l0 x3_1).f0).length c155_0) := (blk_cell BK156.out 0).trans rfl
                            have hcz61_1 : wr.cell? ⟨gb156, 1, none⟩ = some (.int .i64 ((rd_T27 l0 x3_1).f1)) := (blk_cell BK156.out 1).trans rfl
                            have hcz61_2 : wr.cell? ⟨gb156, 2, none⟩ = some (.int .i64 ((rd_T27 l0 x3_1).f2.f0)) := (blk_cell BK156.out 2).trans rfl
                            have hcz61_3 : wr.cell? ⟨gb156, 3, none⟩ = some (.int .i64 ((rd_T27 l0 x3_1).f2.f1)) := (blk_cell BK156.out 3).trans rfl
                            have hcz61_4 : wr.cell? ⟨gb156, 4, none⟩ = some (.int .i64 ((rd_T27 l0 x3_1).f2.f2)) := (blk_cell BK156.out 4).trans rfl
                            have hfz61_0 := blk_frozen BK156.out 0
                            have hfz61_1 := blk_frozen BK156.out 1
                            have hfz61_2 := blk_frozen BK156.out 2
                            have hfz61_3 := blk_frozen BK156.out 3
                            have hfz61_4 := blk_frozen BK156.out 4
                            go_wp2
                            go_meet
                            case rel => exact ⟨_, (true), (by first | rfl | (simp; done) | (simp [*]; done)), H', ⟨by have := HK1.out; have := HJ1.out; have := HJ6.out; have := HJ21.out; have := HK5.out; first | omega | exact Nat.le_refl _⟩, ⟨by (with_reducible repeat (first | apply Kd.Q_alloc | apply Kd.Q_drewN | apply Kd.Q_drew)); exact HO_5.out⟩, ⟨by (with_reducible repeat (first | refine blk_drewN ?_ _ | refine blk_drew ?_ | refine blk_alloc ?_ _)); exact BK156.out⟩, ⟨by (with_reducible repeat (first | refine blk_drewN ?_ _ | refine blk_drew ?_ | refine blk_alloc ?_ _)); exact BK169.out⟩, ⟨by repeat (first | (with_reducible first | exact HB.out | apply below_alloc | apply pw_below_drewN | apply below_drew1 | refine below_set ?_ GE156.out | refine below_set ?_ GE169.out) | exact HB.out)⟩⟩
                          rw [if_neg c59] at H
                          have c59b0 : decide ((wrap64 (Int.tdiv ((rd_T27 l0 x3_1).f1) 2)) < x8_5) = false := decide_eq_false c59
                          clear c59
                          have H' := Aside0.mk H
                          clear H
                          have hnb62 := NB156_169.out
                          have hnc62 := NB169_156.out
                          have hcz63_0 : wr.cell? ⟨gb156, 0, none⟩ = some (.slice A155_0 ((rd_T27 l0 x3_1).f0).length c155_0) := (blk_cell BK156.out 0).trans rfl
                          have hcz63_1 : wr.cell? ⟨gb156, 1, none⟩ = some (.int .i64 ((rd_T27 l0 x3_1).f1)) := (blk_cell BK156.out 1).trans rfl
                          have hcz63_2 : wr.cell? ⟨gb156, 2, none⟩ = some (.int .i64 ((rd_T27 l0 x3_1).f2.f0)) := (blk_cell BK156.out 2).trans rfl
                          have hcz63_3 : wr.cell? ⟨gb156, 3, none⟩ = some (.int .i64 ((rd_T27 l0 x3_1).f2.f1)) := (blk_cell BK156.out 3).trans rfl
                          have hcz63_4 : wr.cell? ⟨gb156, 4, none⟩ = some (.int .i64 ((rd_T27 l0 x3_1).f2.f2)) := (blk_cell BK156.out 4).trans rfl
                          have hfz63_0 := blk_frozen BK156.out 0
                          have hfz63_1 := blk_frozen BK156.out 1
                          have hfz63_2 := blk_frozen BK156.out 2
                          have hfz63_3 := blk_frozen BK156.out 3
                          have hfz63_4 := blk_frozen BK156.out 4
                          go_wp2
                          go_meet
                          case rel => exact ⟨_, (decide (x9_5 > (wrap64 (Int.tdiv ((rd_T27 l0 x3_1).f1) 2)))), (by first | rfl | (simp; done) | (simp [*]; done)), H', ⟨by have := HK1.out; have := HJ1.out; have := HJ6.out; have := HJ21.out; have := HK5.out; first | omega | exact Nat.le_refl _⟩, ⟨by (with_reducible repeat (first | apply Kd.Q_alloc | apply Kd.Q_drewN | apply Kd.Q_drew)); exact HO_5.out⟩, ⟨by (with_reducible repeat (first | refine blk_drewN ?_ _ | refine blk_drew ?_ | refine blk_alloc ?_ _)); exact BK156.out⟩, ⟨by (with_reducible repeat (first | refine blk_drewN ?_ _ | refine blk_drew ?_ | refine blk_alloc ?_ _)); exact BK169.out⟩, ⟨by repeat (first | (with_reducible first | exact HB.out | apply below_alloc | apply pw_below_drewN | apply below_drew1 | refine below_set ?_ GE156.out | refine below_set ?_ GE169.out) | exact HB.out)⟩⟩
                        case rest =>
                          clear HC56
                          try clear c1
                          try clear p1
                          try clear q1
                          try clear hx1
                          try clear p2
                          try clear c3
                          try clear c4
                          try clear c5
                          try clear c6
                          try clear p6
                          try clear c15
                          try clear p17
                          try clear q17
                          try clear hx17
                          try clear c37
                          try clear c37b0
                          try clear c38
                          try clear c43
                          try clear c44
                          try clear c45
                          try clear c45b0
                          try clear c51
                          try clear c51b0
                          try clear c51b1
                          try clear c58
                          try clear c58b0
                          try clear c58b1
                          try clear c59
                          try clear c59b0
                          try clear c60
                          try clear c62
                          try clear hcz61_0
                          try clear hcz61_1
                          try clear hcz61_2
                          try clear hcz61_3
                          try clear hcz61_4
                          try clear hcz63_0
                          try clear hcz63_1
                          try clear hcz63_2
                          try clear hcz63_3
                          try clear hcz63_4
                          try clear hfz61_0
                          try clear hfz61_1
                          try clear hfz61_2
                          try clear hfz61_3
                          try clear hfz61_4
                          try clear hfz63_0
                          try clear hfz63_1
                          try clear hfz63_2
                          try clear hfz63_3
                          try clear hfz63_4
                          try clear hx172_0
                          try clear hx172_1
                          try clear hx172_2
                          try clear hx173_0
                          try clear hx173_1
                          try clear hx173_2
                          try clear hx174_0
                          try clear hx174_1
                          try clear hx174_2
                          try clear p172
                          try clear p173
                          try clear p174
                          try clear q172
                          try clear q173
                          try clear q174
                          obtain ⟨kq, x123_55, rfl, HA, HJ55, HO_5, BK156, BK169, HB⟩ := hcut
                          cases kq with
                          | zero => exact absurd HA.out (by simp [gimballaw13_MedianMiddle.j6])
                          | succ kj55 =>
                            have H := HA.out
                            clear HA
                            simp only [gimballaw13_MedianMiddle.j6] at H
                            by_cases c64 : x123_55 = true
                            · subst c64
                              have H1 : (some false) = some r := by rw [if_pos rfl] at H; exact H
                              clear H
                              have H := H1
                              clear H1
                              exact absurd ((Option.some.inj H).trans hrt_.out) (by simp)
                            replace c64 := Bool.eq_false_iff.mpr c64
                            subst c64
                            have H1 : (gimballaw13_MedianMiddle.l2 kj55 l0 x3_1 t162 ([] : List (S25)) (wrap64 ((t162.length : Int) - 1)) ((rd_T27 l0 x3_1).f0) ((rd_T27 l0 x3_1).f1) ((rd_T27 l0 x3_1).f2.f0) ((rd_T27 l0 x3_1).f2.f1) ((rd_T27 l0 x3_1).f2.f2) t165 t166 t167) = some r := by rw [if_neg (show ¬ (false = true) by decide)] at H; exact H
                            clear H
                            have H := H1
                            clear H1
                            have H' := Aside0.mk H
                            clear H
                            go_wp2
                            go_loopg [12, 13] kj55 (fun kq v12 v13 w' => ∃ (x12_7 : List (S25)) (x13_7 : Int), v13 = .int .i64 x13_7 ∧ Aside0 (gimballaw13_MedianMiddle.l2 kq l0 x3_1 t162 x12_7 x13_7 ((rd_T27 l0 x3_1).f0) ((rd_T27 l0 x3_1).f1) ((rd_T27 l0 x3_1).f2.f0) ((rd_T27 l0 x3_1).f2.f1) ((rd_T27 l0 x3_1).f2.f2) t165 t166 t167 = some r) ∧ Aside0 (kq ≤ kj55) ∧ Aside0 (Kd.Q k25 25 w' w.heap.size (fun k_ => some k_ ≠ (v12 : Value).ownBlock ∧ k_ ≠ gb169) (.slice Ao57 t162.length co57) t162) ∧ Aside0 (Kd.R k25 25 w' w.heap.size (fun k_ => some k_ ≠ ((.slice Ao57 t162.length co57) : Value).ownBlock ∧ k_ ≠ gb169) v12 x12_7) ∧ Aside0 (w'.heap[gb156]? = some (.cells #[(.slice A155_0 ((rd_T27 l0 x3_1).f0).length c155_0), .int .i64 ((rd_T27 l0 x3_1).f1), .int .i64 ((rd_T27 l0 x3_1).f2.f0), .int .i64 ((rd_T27 l0 x3_1).f2.f1), .int .i64 ((rd_T27 l0 x3_1).f2.f2)] 27 (0, 0))) ∧ Aside0 (w'.heap[gb169]? = some (.cells #[.int .i64 t165, .int .i64 t166, .int .i64 t167] 25 (0, 0))) ∧ Aside0 (Below w.heap.size w w'))
                            case atStart => exact ⟨(([] : List (S25))), (wrap64 ((t162.length : Int) - 1)), (by first | rfl | (simp; done) | (simp [*]; done)), H', ⟨Nat.le_refl _⟩, ⟨by (with_reducible repeat (first | apply Kd.Q_alloc | apply Kd.Q_drewN | apply Kd.Q_drew)); exact Kd.Q_mono HO_5.out (fun _ hk => ⟨(by simp [Value.ownBlock]), hk⟩)⟩, ⟨by first | exact Kd.R_nil _ _ _ _ _ | exact Kd.N_nil _ _ _ _ _ | exact Kd.V_nil _ _ _ _ _ | exact Kd.Q_nil _ _ _ _ _ | exact Kd.S_nil _ _ _ _ _⟩, ⟨by (with_reducible repeat (first | refine blk_drewN ?_ _ | refine blk_drew ?_ | refine blk_alloc ?_ _)); exact BK156.out⟩, ⟨by (with_reducible repeat (first | refine blk_drewN ?_ _ | refine blk_drew ?_ | refine blk_alloc ?_ _)); exact BK169.out⟩, ⟨by repeat (first | (with_reducible first | exact HB.out | apply below_alloc | apply pw_below_drewN | apply below_drew1 | refine below_set ?_ GE156.out | refine below_set ?_ GE169.out) | exact HB.out)⟩⟩
                            case round =>
                              clear H'
                              try clear c1
                              try clear p1
                              try clear q1
                              try clear hx1
                              try clear p2
                              try clear c3
                              try clear c4
                              try clear c5
                              try clear c6
                              try clear p6
                              try clear c15
                              try clear p17
                              try clear q17
                              try clear hx17
                              try clear c37
                              try clear c37b0
                              try clear c38
                              try clear c43
                              try clear c44
                              try clear c45
                              try clear c45b0
                              try clear c51
                              try clear c51b0
                              try clear c51b1
                              try clear c58
                              try clear c58b0
                              try clear c58b1
                              try clear c59
                              try clear c59b0
                              try clear c60
                              try clear c62
                              try clear c64
                              try clear p64
                              try clear hcz61_0
                              try clear hcz61_1
                              try clear hcz61_2
                              try clear hcz61_3
                              try clear hcz61_4
                              try clear hcz63_0
                              try clear hcz63_1
                              try clear hcz63_2
                              try clear hcz63_3
                              try clear hcz63_4
                              try clear hfz61_0
                              try clear hfz61_1
                              try clear hfz61_2
                              try clear hfz61_3
                              try clear hfz61_4
                              try clear hfz63_0
                              try clear hfz63_1
                              try clear hfz63_2
                              try clear hfz63_3
                              try clear hfz63_4
                              try clear hx172_0
                              try clear hx172_1
                              try clear hx172_2
                              try clear hx173_0
                              try clear hx173_1
                              try clear hx173_2
                              try clear hx174_0
                              try clear hx174_1
                              try clear hx174_2
                              try clear p1
                              try clear p17
                              try clear p172
                              try clear p173
                              try clear p174
                              try clear p2
                              try clear p6
                              try clear q1
                              try clear q17
                              try clear q172
                              try clear q173
                              try clear q174
                              obtain ⟨x12_7, x13_7, rfl, HA, HK7, HO_5, HO_12, BK156, BK169, HB⟩ := hrel
                              cases gk with
                              | zero => exact absurd HA.out (by simp [gimballaw13_MedianMiddle.l2])
                              | succ k7 =>
                                have H := HA.out
                                clear HA
                                simp only [gimballaw13_MedianMiddle.l2] at H
                                by_cases c65 : x13_7 > 0
                                · rw [if_pos c65] at H
                                  have c65b0 : decide (0 < x13_7) = true := decide_eq_true c65
                                  clear c65
                                  by_cases c66 : 0 ≤ x13_7
                                  rotate_left
                                  · rw [if_neg c66] at H
                                    exact absurd H (by simp)
                                  rw [if_pos c66] at H
                                  have c66b0 : decide (0 ≤ x13_7) = true := decide_eq_true c66
                                  clear c66
                                  by_cases c67 : x13_7 < (t162.length : Int)
                                  rotate_left
                                  · rw [if_neg c67] at H
                                    exact absurd H (by simp)
                                  rw [if_pos c67] at H
                                  have c67b0 : decide (x13_7 < (t162.length : Int)) = true := decide_eq_true c67
                                  clear c67
                                  by_cases c68 : x12_7.length < 5864062014805
                                  rotate_left
                                  · rw [if_neg c68] at H
                                    exact absurd H (by simp)
                                  rw [if_pos c68] at H
                                  have LMc68 := Aside0.mk c68
                                  clear c68
                                  obtain ⟨y176, hy176⟩ : ∃ y_ : List (S25), y_ = (x12_7 ++ [(⟨(rd_T25 t162 x13_7).f0, (rd_T25 t162 x13_7).f1, (rd_T25 t162 x13_7).f2⟩ : S25)]) := ⟨_, rfl⟩
                                  replace H : (gimballaw13_MedianMiddle.l2 k7 l0 x3_1 t162 y176 (wrap64 (x13_7 - 1)) ((rd_T27 l0 x3_1).f0) ((rd_T27 l0 x3_1).f1) ((rd_T27 l0 x3_1).f2.f0) ((rd_T27 l0 x3_1).f2.f1) ((rd_T27 l0 x3_1).f2.f2) t165 t166 t167) = some r := by first | (rw [hy176]; with_reducible exact H) | (have H2_ := (Option.bind_some _ _).symm.trans H; rw [hy176]; with_reducible exact H2_) | (have H2_ := (Option.bind_some _ _).symm.trans H; with_reducible exact H2_) | with_reducible exact H | (rw [hy176]; exact H) | exact H
                                  have Ny176 := Aside0.mk hy176
                                  clear hy176
                                  have H' := Aside0.mk H
                                  clear H
                                  have p175 : 0 ≤ (x13_7 : Int) := of_decide_eq_true (by first | (with_reducible assumption) | assumption)
                                  have q175 : x13_7 < (t162.length : Int) := of_decide_eq_true (by first | (with_reducible assumption) | assumption)
                                  obtain ⟨ad175, e175, hx175_0, hx175_1, hx175_2⟩ := at_T25 (Kd.Q_reads' HO_5.out).2.2 x13_7 p175 q175
                                  cases e175
                                  replace p175 := eq_true p175
                                  replace q175 := eq_true q175
                                  go_wp2_with (first | ((with_reducible refine gate_builtin (b := .append) (xs := #[.tmp 131, .tmp 136]) rfl ?_); (try (refine gate_guard (by rfl) ?_; dsimp only)); at_builtin; refine Kd.R_append k25 (w0 := w) w.heap.size rfl (.tmp 131) (.tmp 136) 23 25 (.agg #[(.int .i64 0), (.int .i64 0), (.int .i64 0)]) 24 rfl Try.underlying23 info25 rfl (by decide) (by omega) u12 x12_7 (⟨(rd_T25 t162 x13_7).f0, (rd_T25 t162 x13_7).f1, (rd_T25 t162 x13_7).f2⟩ : S25) [.int .i64 ((rd_T25 t162 x13_7).f0), .int .i64 ((rd_T25 t162 x13_7).f1), .int .i64 ((rd_T25 t162 x13_7).f2)] (fun k_ => some k_ ≠ (.slice (some ad175) t162.length co57 : Value).ownBlock ∧ k_ ≠ gb169) (fun _ => False) rfl rfl ?aP (fun _ hk => hk.elim) ?aF ?aO ?aB ?aS ?aL ?_; (case aP => exact k25_mkM _ _ _ (⟨(rd_T25 t162 x13_7).f0, (rd_T25 t162 x13_7).f1, (rd_T25 t162 x13_7).f2⟩ : S25)); (case aB => exact (by repeat (first | (with_reducible first | exact HB.out | apply below_alloc | apply pw_below_drewN | apply below_drew1 | refine below_set ?_ GE156.out | refine below_set ?_ GE169.out) | exact HB.out))); (case aF => exact (fun k_ hk => ⟨Kd.fresh' (Kd.Q_lt (by (with_reducible repeat (first | apply Kd.Q_alloc | apply Kd.Q_drewN | apply Kd.Q_drew)); exact HO_5.out)) k_ hk, Kd.freshB (g := gb169) (o := .cells #[.int .i64 t165, .int .i64 t166, .int .i64 t167] 25 (0, 0)) (by (with_reducible repeat (first | refine blk_drewN ?_ _ | refine blk_drew ?_ | refine blk_alloc ?_ _)); exact BK169.out) k_ hk⟩)); (case aO => exact (by (with_reducible repeat (first | apply Kd.R_alloc | apply Kd.R_drewN | apply Kd.R_drew)); exact HO_12.out)); (case aS => exact (below_size (by repeat (first | (with_reducible first | exact HB.out | apply below_alloc | apply pw_below_drewN | apply below_drew1 | refine below_set ?_ GE156.out | refine below_set ?_ GE169.out) | exact HB.out)))); (case aL => have := LMc68.out; omega); intro v177 w69 ho hb hg hat; rw [← Ny176.out] at ho; have n0_ := Aside0.mk (Kd.Q_after (ok := (fun k_ => k_ ≠ gb169)) (by (with_reducible repeat (first | apply Kd.Q_alloc | apply Kd.Q_drewN | apply Kd.Q_drew)); exact Kd.Q_mono HO_5.out (fun _ hk => ⟨hk.2, hk.1⟩)) hg hat); have n1_ := Aside0.mk (blk_grown (g := gb156) (o := .cells #[.slice A155_0 ((rd_T27 l0 x3_1).f0).length c155_0, .int .i64 ((rd_T27 l0 x3_1).f1), .int .i64 ((rd_T27 l0 x3_1).f2.f0), .int .i64 ((rd_T27 l0 x3_1).f2.f1), .int .i64 ((rd_T27 l0 x3_1).f2.f2)] 27 (0, 0)) (by (with_reducible repeat (first | refine blk_drewN ?_ _ | refine blk_drew ?_ | refine blk_alloc ?_ _)); exact BK156.out) hg (Kd.R_ne HO_12.out BK156.out (by decide))); have n2_ := Aside0.mk (blk_grown (g := gb169) (o := .cells #[.int .i64 t165, .int .i64 t166, .int .i64 t167] 25 (0, 0)) (by (with_reducible repeat (first | refine blk_drewN ?_ _ | refine blk_drew ?_ | refine blk_alloc ?_ _)); exact BK169.out) hg (Kd.R_away HO_12.out (fun _ hk => hk.2))); have n3_ := Aside0.mk (hb); have n4_ := Aside0.mk (ho); clear HO_5; clear BK156; clear BK169; clear HB; clear HO_12; have HO_5 := n0_; have BK156 := n1_; have BK169 := n2_; have HB := n3_; have HO178 := n4_; clear n0_ n1_ n2_ n3_ n4_; clear ho hb hg hat))
                                  go_roundg k7
                                  case measure => have := HK1.out; have := HJ1.out; have := HJ6.out; have := HJ21.out; have := HK5.out; have := HJ55.out; have := HK7.out; omega
                                  case rel => exact ⟨(y176), (wrap64 (x13_7 - 1)), (by first | rfl | (simp; done) | (simp [*]; done)), H', ⟨by have := HK1.out; have := HJ1.out; have := HJ6.out; have := HJ21.out; have := HK5.out; have := HJ55.out; have := HK7.out; omega⟩, ⟨by (with_reducible repeat (first | apply Kd.Q_alloc | apply Kd.Q_drewN | apply Kd.Q_drew)); exact Kd.Q_mono HO_5.out (fun _ hk => ⟨hk.2, hk.1⟩)⟩, ⟨by (with_reducible repeat (first | apply Kd.R_alloc | apply Kd.R_drewN | apply Kd.R_drew)); exact HO178.out⟩, ⟨by (with_reducible repeat (first | refine blk_drewN ?_ _ | refine blk_drew ?_ | refine blk_alloc ?_ _)); exact BK156.out⟩, ⟨by (with_reducible repeat (first | refine blk_drewN ?_ _ | refine blk_drew ?_ | refine blk_alloc ?_ _)); exact BK169.out⟩, ⟨by repeat (first | (with_reducible first | exact HB.out | apply below_alloc | apply pw_below_drewN | apply below_drew1 | refine below_set ?_ GE156.out | refine below_set ?_ GE169.out) | exact HB.out)⟩⟩
                                rw [if_neg c65] at H
                                have c65b0 : decide (0 < x13_7) = false := decide_eq_false c65
                                clear c65
                                by_cases c70 : 0 < (t162.length : Int)
                                rotate_left
                                · rw [if_neg c70] at H
                                  exact absurd H (by simp)
                                rw [if_pos c70] at H
                                have c70b0 : decide (0 < (t162.length : Int)) = true := decide_eq_true c70
                                have c70b1 : decide (0 < t162.length) = true := decide_eq_true (by omega)
                                clear c70
                                replace H := Option.bind_eq_some_iff.mp H
                                obtain ⟨⟨t180, t183, t184, t185, t186⟩, A710, H⟩ := H
                                replace H : ((gimballaw13_num.f t186).bind fun t188 => (if t188 = 0 then (if (!(t183 == t165) || (!(t184 == t166) || (!(t185 == t167)))) = true then (some false) else (gimballaw13_MedianMiddle.l0 k7 l0 (wrap64 (x3_1 + 1)))) else (some false))) = some r := H
                                have A71 := Aside0.mk A710
                                clear A710
                                replace H := Option.bind_eq_some_iff.mp H
                                obtain ⟨t188, A720, H⟩ := H
                                replace H : (if t188 = 0 then (if (!(t183 == t165) || (!(t184 == t166) || (!(t185 == t167)))) = true then (some false) else (gimballaw13_MedianMiddle.l0 k7 l0 (wrap64 (x3_1 + 1)))) else (some false)) = some r := H
                                have A72 := Aside0.mk A720
                                clear A720
                                by_cases c73 : t188 = 0
                                rotate_left
                                · rw [if_neg c73] at H
                                  have c73b0 : (t188 == 0) = false := beq_eq_false_iff_ne.mpr c73
                                  have c73b1 : (t188 != 0) = true := bne_iff_ne.mpr c73
                                  exact absurd ((Option.some.inj H).trans hrt_.out) (by simp)
                                rw [if_pos c73] at H
                                have c73b0 : (t188 == 0) = true := beq_iff_eq.mpr c73
                                have c73b1 : (t188 != 0) = false := bne_eq_false_iff_eq.mpr c73
                                clear c73
                                by_cases c74 : (!(t183 == t165) || (!(t184 == t166) || (!(t185 == t167)))) = true
                                · rw [if_pos c74] at H
                                  have c74b0 : (!(t183 == t165) || (!(t184 == t166) || (!(t185 == t167)))) = true := c74
                                  clear c74
                                  exact absurd ((Option.some.inj H).trans hrt_.out) (by simp)
                                rw [if_neg c74] at H
                                have c74b0 : (!(t183 == t165) || (!(t184 == t166) || (!(t185 == t167)))) = false := by simpa using c74
                                clear c74
                                have H' := Aside0.mk H
                                clear H
                                obtain ⟨Ao75, co75, eo75⟩ := Kd.R_slice HO_12.out
                                subst eo75
                                try go_wp2
                                have n0_ := Aside0.mk (Kd.Q_drew HO_5.out)
                                have n1_ := Aside0.mk (Kd.R_drew HO_12.out)
                                have n2_ := Aside0.mk (blk_drew BK156.out)
                                have n3_ := Aside0.mk (blk_drew BK169.out)
                                have n4_ := Aside0.mk (below_drew1 HB.out)
                                clear HO_5
                                clear HO_12
                                clear BK156
                                clear BK169
                                clear HB
                                have HO_5 := n0_
                                have HO_12 := n1_
                                have BK156 := n2_
                                have BK169 := n3_
                                have HB := n4_
                                clear n0_ n1_ n2_ n3_ n4_
                                have p179 : 0 ≤ (0 : Int) := (by omega)
                                have q179 : 0 < (t162.length : Int) := of_decide_eq_true (by first | (with_reducible assumption) | assumption)
                                obtain ⟨ad179, e179, hx179_0, hx179_1, hx179_2⟩ := at_T25 (Kd.Q_reads' HO_5.out).2.2 0 p179 q179
                                cases e179
                                have qi179 : (0 < t162.length) = True := eq_true (by omega)
                                (try rw [show ((0 : Int)).toNat = 0 from rfl] at hx179_0)
                                (try rw [show 0 * 3 = 0 from rfl] at hx179_0)
                                (try rw [Addr.add_zero'] at hx179_0)
                                (try rw [show ((0 : Int)).toNat = 0 from rfl] at hx179_1)
                                (try rw [show 0 * 3 = 0 from rfl] at hx179_1)
                                (try rw [Addr.add_zero'] at hx179_1)
                                (try rw [show ((0 : Int)).toNat = 0 from rfl] at hx179_2)
                                (try rw [show 0 * 3 = 0 from rfl] at hx179_2)
                                (try rw [Addr.add_zero'] at hx179_2)
                                replace p179 := eq_true p179
                                replace q179 := eq_true q179
                                refine start_ (n := 15) (S := fun w' => w'.cell? ⟨gb156, 0, none⟩ = some (.slice A155_0 ((rd_T27 l0 x3_1).f0).length c155_0) ∧ w'.cell? ⟨gb156, 1, none⟩ = some (.int .i64 ((rd_T27 l0 x3_1).f1)) ∧ w'.cell? ⟨gb156, 2, none⟩ = some (.int .i64 ((rd_T27 l0 x3_1).f2.f0)) ∧ w'.cell? ⟨gb156, 3, none⟩ = some (.int .i64 ((rd_T27 l0 x3_1).f2.f1)) ∧ w'.cell? ⟨gb156, 4, none⟩ = some (.int .i64 ((rd_T27 l0 x3_1).f2.f2)) ∧ w'.cell? ad179 = some (.int .i64 ((rd_T25 t162 0).f0)) ∧ w'.cell? ⟨ad179.block, ad179.off + 1, none⟩ = some (.int .i64 ((rd_T25 t162 0).f1)) ∧ w'.cell? ⟨ad179.block, ad179.off + 2, none⟩ = some (.int .i64 ((rd_T25 t162 0).f2))) (ds := []) #[false, false, false, false, false, false, false, false, false, false, false, false, false, false, false] (by kernel_rfl) rfl rfl ⟨(blk_cell BK156.out 0).trans rfl, (blk_cell BK156.out 1).trans rfl, (blk_cell BK156.out 2).trans rfl, (blk_cell BK156.out 3).trans rfl, (blk_cell BK156.out 4).trans rfl, hx179_0, hx179_1, hx179_2⟩ (fun hHeld => ?_); refine with_tabW gimballaw13_MedianMiddle.tab26 gimballaw13_MedianMiddle.bits26 (fun HT_ HW_ => ?_)
                                generalize wr.drew = w76 at HO_5 HO_12 BK156 BK169 HB hx179_0 hx179_1 hx179_2 hHeld ⊢
                                refine pure_ (i := 0) (N := some 139) (v := ?_) (a' := ?_) #[true, false, false, false, false, false, false, false, false, false, false, false, false, false, false] rfl rfl (any_of HT_.out (by kernel_rfl)) (fun _ _ _ h => h) (Or.inl ⟨by rfl, ?_⟩) ?_ ?_
                                rotate_left
                                · intro w'
                                  go_simp
                                  with_reducible rfl
                                rotate_left
                                · simp only [Act.put, List.setIfInBounds_toArray, List.set_cons_zero, List.set_cons_succ, i64_w, i32_w]
                                  rfl
                                refine pure_ (i := 1) (N := some 140) (v := ?_) (a' := ?_) #[true, true, false, false, false, false, false, false, false, false, false, false, false, false, false] rfl rfl (any_of HT_.out (by kernel_rfl)) (fun _ _ _ h => h) (Or.inl ⟨by rfl, ?_⟩) ?_ ?_
                                rotate_left
                                · intro w'
                                  go_simp
                                  with_reducible rfl
                                rotate_left
                                · simp only [Act.put, List.setIfInBounds_toArray, List.set_cons_zero, List.set_cons_succ, i64_w, i32_w]
                                  rfl
                                refine pure_ (i := 3) (N := some 142) (v := ?_) (a' := ?_) #[true, true, false, true, false, false, false, false, false, false, false, false, false, false, false] rfl rfl (any_of HT_.out (by kernel_rfl)) (fun _ _ _ h => h) (Or.inl ⟨by rfl, ?_⟩) ?_ ?_
                                rotate_left
                                · intro w'
                                  go_simp
                                  with_reducible rfl
                                rotate_left
                                · simp only [Act.put, List.setIfInBounds_toArray, List.set_cons_zero, List.set_cons_succ, i64_w, i32_w]
                                  rfl
                                refine pure_ (i := 4) (N := some 143) (v := ?_) (a' := ?_) #[true, true, false, true, true, false, false, false, false, false, false, false, false, false, false] rfl rfl (any_of HT_.out (by kernel_rfl)) (fun _ _ _ h => h) (Or.inl ⟨by rfl, ?_⟩) ?_ ?_
                                rotate_left
                                · intro w'
                                  go_simp
                                  with_reducible rfl
                                rotate_left
                                · simp only [Act.put, List.setIfInBounds_toArray, List.set_cons_zero, List.set_cons_succ, i64_w, i32_w]
                                  rfl
                                refine take_ (i := 2) (N := some 141) (v := ?_) (a' := ?_) #[true, true, true, true, true, false, false, false, false, false, false, false, false, false, false] rfl rfl (take_ofW HT_.out HW_.out (by kernel_rfl)) (fun _ _ _ h => h) (Or.inl ⟨by rfl, ?_⟩) hHeld ?_ ?_
                                rotate_left
                                · rintro w' ⟨s0, s1, s2, s3, s4, s5, s6, s7⟩
                                  go_simp
                                  with_reducible rfl
                                rotate_left
                                · simp only [Act.put, List.setIfInBounds_toArray, List.set_cons_zero, List.set_cons_succ, i64_w, i32_w]
                                  rfl
                                refine take_ (i := 5) (N := some 144) (v := ?_) (a' := ?_) #[true, true, true, true, true, true, false, false, false, false, false, false, false, false, false] rfl rfl (take_ofW HT_.out HW_.out (by kernel_rfl)) (fun _ _ _ h => h) (Or.inl ⟨by rfl, ?_⟩) hHeld ?_ ?_
                                rotate_left
                                · rintro w' ⟨s0, s1, s2, s3, s4, s5, s6, s7⟩
                                  go_simp
                                  with_reducible rfl
                                rotate_left
                                · simp only [Act.put, List.setIfInBounds_toArray, List.set_cons_zero, List.set_cons_succ, i64_w, i32_w]
                                  rfl
                                refine join_ (σ := Value × Nat) 3 #[true, true, true, true, true, true, true, true, true, true, true, true, false, false, false] (fun s_ => [(145, .tuple #[s_.1, .agg #[.int .i64 t183, .int .i64 t184, .int .i64 t185], .int .i64 t186]), (15, .pointer (some ⟨s_.2, 0, none⟩)), (138, .tuple #[s_.1, .agg #[.int .i64 t183, .int .i64 t184, .int .i64 t185], .int .i64 t186]), (146, s_.1), (147, .agg #[.int .i64 t183, .int .i64 t184, .int .i64 t185]), (148, .int .i64 t186)]) (fun s_ w' => (w'.cell? ⟨gb156, 0, none⟩ = some (.slice A155_0 ((rd_T27 l0 x3_1).f0).length c155_0) ∧ w'.cell? ⟨gb156, 1, none⟩ = some (.int .i64 ((rd_T27 l0 x3_1).f1)) ∧ w'.cell? ⟨gb156, 2, none⟩ = some (.int .i64 ((rd_T27 l0 x3_1).f2.f0)) ∧ w'.cell? ⟨gb156, 3, none⟩ = some (.int .i64 ((rd_T27 l0 x3_1).f2.f1)) ∧ w'.cell? ⟨gb156, 4, none⟩ = some (.int .i64 ((rd_T27 l0 x3_1).f2.f2)) ∧ w'.cell? ad179 = some (.int .i64 ((rd_T25 t162 0).f0)) ∧ w'.cell? ⟨ad179.block, ad179.off + 1, none⟩ = some (.int .i64 ((rd_T25 t162 0).f1)) ∧ w'.cell? ⟨ad179.block, ad179.off + 2, none⟩ = some (.int .i64 ((rd_T25 t162 0).f2))) ∧ (Kd.Q k25 25 w' w.heap.size (fun k_ => some k_ ≠ (.slice Ao75 x12_7.length co75 : Value).ownBlock ∧ some k_ ≠ (.slice (some ad179) t162.length co57 : Value).ownBlock ∧ k_ ≠ gb169 ∧ k_ ≠ s_.2) s_.1 t180) ∧ (Kd.R k25 25 w' w.heap.size (fun k_ => some k_ ≠ (s_.1 : Value).ownBlock ∧ some k_ ≠ (.slice (some ad179) t162.length co57 : Value).ownBlock ∧ k_ ≠ gb169 ∧ k_ ≠ s_.2) (.slice Ao75 x12_7.length co75) x12_7) ∧ (Kd.Q k25 25 w' w.heap.size (fun k_ => some k_ ≠ (s_.1 : Value).ownBlock ∧ some k_ ≠ (.slice Ao75 x12_7.length co75 : Value).ownBlock ∧ k_ ≠ gb169 ∧ k_ ≠ s_.2) (.slice (some ad179) t162.length co57) t162) ∧ (w'.heap[gb156]? = some (.cells #[.slice A155_0 ((rd_T27 l0 x3_1).f0).length c155_0, .int .i64 ((rd_T27 l0 x3_1).f1), .int .i64 ((rd_T27 l0 x3_1).f2.f0), .int .i64 ((rd_T27 l0 x3_1).f2.f1), .int .i64 ((rd_T27 l0 x3_1).f2.f2)] 27 (0, 0))) ∧ (w'.heap[gb169]? = some (.cells #[.int .i64 t165, .int .i64 t166, .int .i64 t167] 25 (0, 0))) ∧ (w'.heap[s_.2]? = some (.cells #[.int .i64 0, .int .i64 0, .int .i64 0] 25 (0, 0))) ∧ (w.heap.size ≤ s_.2) ∧ (w.heap.size ≤ s_.2) ∧ (gb156 ≠ s_.2) ∧ (s_.2 ≠ gb156) ∧ (gb169 ≠ s_.2) ∧ (s_.2 ≠ gb169) ∧ (Below w.heap.size w w')) ?_ ?_
                                rotate_left
                                · intro hCont
                                  refine two_ (i := 6) (j := 11) (Ni := some 145) (Nj := some 15) #[true, true, true, true, true, true, true, false, false, false, false, false, false, false, false] #[true, true, true, true, true, true, false, false, false, false, false, true, false, false, false] rfl rfl rfl rfl (two_of HT_.out (by kernel_rfl)) (by decide) (by decide) (fun K hK => ?_) (fun K hK => ?_)
                                  · skip
                                    refine goes_ Try.func9 (by kernel_rfl) rfl #[.slice Ao75 x12_7.length co75, .int .i64 ((rd_T27 l0 x3_1).f1), .agg #[.int .i64 ((rd_T25 t162 0).f0), .int .i64 ((rd_T25 t162 0).f1), .int .i64 ((rd_T25 t162 0).f2)]] (by rfl) rfl rfl (by (try simp only [List.map_toArray, List.map_cons, List.map_nil]); first | done | rfl | (simp only [List.length_drop, List.length_take]; rfl)) ?_
                                    with_reducible refine (median_Take.calls k7 _ _ x12_7 ((rd_T27 l0 x3_1).f1) ((rd_T25 t162 0).f0) ((rd_T25 t162 0).f1) ((rd_T25 t162 0).f2) t180 t183 t184 t185 t186 _ ?side1 ?side2 A71.out).mono ?_
                                    (case side1 => repeat (first | exact (Kd.R_reads' HO_12.out).2.2 | (with_reducible refine Kd.C_alloc ?_ _) | (with_reducible refine Kd.C_drewN ?_ _) | (with_reducible refine Kd.C_drew ?_)))
                                    (case side2 => exact (Kd.R_reads' HO_12.out).2.1)
                                    rintro e w77 ⟨v181, rfl, ho0, hb⟩
                                    have HS5_ := (hb.cell (World.block_lt_of_cell? _ _ (hHeld.2.2.2.2.2.1))).trans (hHeld.2.2.2.2.2.1)
                                    have HS6_ := (hb.cell (World.block_lt_of_cell? _ _ (hHeld.2.2.2.2.2.2.1))).trans (hHeld.2.2.2.2.2.2.1)
                                    have HS7_ := (hb.cell (World.block_lt_of_cell? _ _ (hHeld.2.2.2.2.2.2.2))).trans (hHeld.2.2.2.2.2.2.2)
                                    refine ⟨_, rfl, ?_⟩
                                    have n0_ := Aside0.mk (Kd.Q_elder' (by (with_reducible repeat (first | apply Kd.Q_alloc | apply Kd.Q_drewN | apply Kd.Q_drew)); exact HO_5.out) (Kd.Q_base ho0) hb)
                                    have n1_ := Aside0.mk (Kd.R_elder' (by (with_reducible repeat (first | apply Kd.R_alloc | apply Kd.R_drewN | apply Kd.R_drew)); exact HO_12.out) (Kd.Q_base ho0) hb)
                                    have n2_ := Aside0.mk (Kd.Q_lower (Kd.Q_newB (Kd.Q_new' (Kd.Q_new' ho0 (Kd.Q_lt (by (with_reducible repeat (first | apply Kd.Q_alloc | apply Kd.Q_drewN | apply Kd.Q_drew)); exact HO_5.out))) (Kd.R_lt (by (with_reducible repeat (first | apply Kd.R_alloc | apply Kd.R_drewN | apply Kd.R_drew)); exact HO_12.out))) (g := gb169) (o := .cells #[.int .i64 t165, .int .i64 t166, .int .i64 t167] 25 (0, 0)) (by (with_reducible repeat (first | refine blk_drewN ?_ _ | refine blk_drew ?_ | refine blk_alloc ?_ _)); exact BK169.out)) (below_size (by repeat (first | (with_reducible first | exact HB.out | apply below_alloc | apply pw_below_drewN | apply below_drew1 | refine below_set ?_ GE156.out | refine below_set ?_ GE169.out) | exact HB.out))))
                                    have n3_ := Aside0.mk (blk_below (g := gb156) (o := .cells #[.slice A155_0 ((rd_T27 l0 x3_1).f0).length c155_0, .int .i64 ((rd_T27 l0 x3_1).f1), .int .i64 ((rd_T27 l0 x3_1).f2.f0), .int .i64 ((rd_T27 l0 x3_1).f2.f1), .int .i64 ((rd_T27 l0 x3_1).f2.f2)] 27 (0, 0)) (by (with_reducible repeat (first | refine blk_drewN ?_ _ | refine blk_drew ?_ | refine blk_alloc ?_ _)); exact BK156.out) hb)
                                    have n4_ := Aside0.mk (blk_below (g := gb169) (o := .cells #[.int .i64 t165, .int .i64 t166, .int .i64 t167] 25 (0, 0)) (by (with_reducible repeat (first | refine blk_drewN ?_ _ | refine blk_drew ?_ | refine blk_alloc ?_ _)); exact BK169.out) hb)
                                    have n5_ := Aside0.mk (below_step (by repeat (first | (with_reducible first | exact HB.out | apply below_alloc | apply pw_below_drewN | apply below_drew1 | refine below_set ?_ GE156.out | refine below_set ?_ GE169.out) | exact HB.out)) hb)
                                    clear HO_5
                                    clear HO_12
                                    clear BK156
                                    clear BK169
                                    clear HB
                                    have HO_5 := n0_
                                    have HO_12 := n1_
                                    have HO182 := n2_
                                    have BK156 := n3_
                                    have BK169 := n4_
                                    have HB := n5_
                                    clear n0_ n1_ n2_ n3_ n4_ n5_
                                    (try clear hb)
                                    (try clear hb2)
                                    (try clear hk)
                                    (try clear hi)
                                    (try clear ho0)
                                    refine hK.out _ _ ⟨(blk_cell BK156.out 0).trans rfl, (blk_cell BK156.out 1).trans rfl, (blk_cell BK156.out 2).trans rfl, (blk_cell BK156.out 3).trans rfl, (blk_cell BK156.out 4).trans rfl, HS5_, HS6_, HS7_⟩ (fun hHeld => ?_)
                                    clear hK K
                                    refine norm_ (a' := ?_) ?_ ?_
                                    rotate_left
                                    · show Act.put _ (some 145) _ = _
                                      simp only [Act.put, List.setIfInBounds_toArray, List.set_cons_zero, List.set_cons_succ, i64_w, i32_w]
                                      rfl
                                    refine pure_ (i := 7) (N := some 138) (v := ?_) (a' := ?_) #[true, true, true, true, true, true, true, true, false, false, false, false, false, false, false] rfl rfl (any_of HT_.out (by kernel_rfl)) (fun _ _ _ h => h) (Or.inl ⟨by rfl, ?_⟩) ?_ ?_
                                    rotate_left
                                    · intro w'
                                      go_simp
                                      with_reducible rfl
                                    rotate_left
                                    · simp only [Act.put, List.setIfInBounds_toArray, List.set_cons_zero, List.set_cons_succ, i64_w, i32_w]
                                      rfl
                                    refine pure_ (i := 8) (N := some 146) (v := ?_) (a' := ?_) #[true, true, true, true, true, true, true, true, true, false, false, false, false, false, false] rfl rfl (any_of HT_.out (by kernel_rfl)) (fun _ _ _ h => h) (Or.inl ⟨by rfl, ?_⟩) ?_ ?_
                                    rotate_left
                                    · intro w'
                                      go_simp
                                      with_reducible rfl
                                    rotate_left
                                    · simp only [Act.put, List.setIfInBounds_toArray, List.set_cons_zero, List.set_cons_succ, i64_w, i32_w]
                                      rfl
                                    refine pure_ (i := 9) (N := some 147) (v := ?_) (a' := ?_) #[true, true, true, true, true, true, true, true, true, true, false, false, false, false, false] rfl rfl (any_of HT_.out (by kernel_rfl)) (fun _ _ _ h => h) (Or.inl ⟨by rfl, ?_⟩) ?_ ?_
                                    rotate_left
                                    · intro w'
                                      go_simp
                                      with_reducible rfl
                                    rotate_left
                                    · simp only [Act.put, List.setIfInBounds_toArray, List.set_cons_zero, List.set_cons_succ, i64_w, i32_w]
                                      rfl
                                    refine pure_ (i := 10) (N := some 148) (v := ?_) (a' := ?_) #[true, true, true, true, true, true, true, true, true, true, true, false, false, false, false] rfl rfl (any_of HT_.out (by kernel_rfl)) (fun _ _ _ h => h) (Or.inl ⟨by rfl, ?_⟩) ?_ ?_
                                    rotate_left
                                    · intro w'
                                      go_simp
                                      with_reducible rfl
                                    rotate_left
                                    · simp only [Act.put, List.setIfInBounds_toArray, List.set_cons_zero, List.set_cons_succ, i64_w, i32_w]
                                      rfl
                                    refine one_ (i := 11) (N := some 15) #[true, true, true, true, true, true, true, true, true, true, true, true, false, false, false] rfl rfl (one_of HT_.out (by kernel_rfl)) (by decide) (fun K hK => ?_)
                                    refine box_step ?hg (N := 15) ?hd (cs := #[.int .i64 0, .int .i64 0, .int .i64 0]) (t := 25) ?hr ?_; (case hd => rfl); (case hg => rfl); (case hr => first | (go_simp; done) | (go_simp; rfl))
                                    intro gb187 hg w78 hbox hb
                                    have HS5_ := (hb.cell (World.block_lt_of_cell? _ _ (hHeld.2.2.2.2.2.1))).trans (hHeld.2.2.2.2.2.1)
                                    have HS6_ := (hb.cell (World.block_lt_of_cell? _ _ (hHeld.2.2.2.2.2.2.1))).trans (hHeld.2.2.2.2.2.2.1)
                                    have HS7_ := (hb.cell (World.block_lt_of_cell? _ _ (hHeld.2.2.2.2.2.2.2))).trans (hHeld.2.2.2.2.2.2.2)
                                    have n0_ := Aside0.mk (Kd.Q_below (Kd.Q_elderB (by (with_reducible repeat (first | apply Kd.Q_alloc | apply Kd.Q_drewN | apply Kd.Q_drew)); exact HO_5.out) gb187 (Nat.le_of_eq hg.symm)) hb)
                                    have n1_ := Aside0.mk (Kd.R_below (Kd.R_elderB (by (with_reducible repeat (first | apply Kd.R_alloc | apply Kd.R_drewN | apply Kd.R_drew)); exact HO_12.out) gb187 (Nat.le_of_eq hg.symm)) hb)
                                    have n2_ := Aside0.mk (Kd.Q_below (Kd.Q_elderB (by (with_reducible repeat (first | apply Kd.Q_alloc | apply Kd.Q_drewN | apply Kd.Q_drew)); exact HO182.out) gb187 (Nat.le_of_eq hg.symm)) hb)
                                    have n3_ := Aside0.mk (blk_below (g := gb156) (o := .cells #[.slice A155_0 ((rd_T27 l0 x3_1).f0).length c155_0, .int .i64 ((rd_T27 l0 x3_1).f1), .int .i64 ((rd_T27 l0 x3_1).f2.f0), .int .i64 ((rd_T27 l0 x3_1).f2.f1), .int .i64 ((rd_T27 l0 x3_1).f2.f2)] 27 (0, 0)) (by (with_reducible repeat (first | refine blk_drewN ?_ _ | refine blk_drew ?_ | refine blk_alloc ?_ _)); exact BK156.out) hb)
                                    have n4_ := Aside0.mk (blk_below (g := gb169) (o := .cells #[.int .i64 t165, .int .i64 t166, .int .i64 t167] 25 (0, 0)) (by (with_reducible repeat (first | refine blk_drewN ?_ _ | refine blk_drew ?_ | refine blk_alloc ?_ _)); exact BK169.out) hb)
                                    have n5_ := Aside0.mk (below_step (by repeat (first | (with_reducible first | exact HB.out | apply below_alloc | apply pw_below_drewN | apply below_drew1 | refine below_set ?_ GE156.out | refine below_set ?_ GE169.out) | exact HB.out)) hb)
                                    have n6_ := Aside0.mk (hbox)
                                    have n7_ := Aside0.mk ((by rw [hg]; exact (below_size (by repeat (first | (with_reducible first | exact HB.out | apply below_alloc | apply pw_below_drewN | apply below_drew1 | refine below_set ?_ GE156.out | refine below_set ?_ GE169.out) | exact HB.out))) : w.heap.size ≤ gb187))
                                    have n8_ := Aside0.mk ((by rw [hg]; exact (below_size (by repeat (first | (with_reducible first | exact HB.out | apply below_alloc | apply pw_below_drewN | apply below_drew1 | refine below_set ?_ GE156.out | refine below_set ?_ GE169.out) | exact HB.out))) : w.heap.size ≤ gb187))
                                    have n9_ := Aside0.mk ((by rw [hg]; exact Nat.ne_of_lt (blk_lt (g := gb156) (o := .cells #[.slice A155_0 ((rd_T27 l0 x3_1).f0).length c155_0, .int .i64 ((rd_T27 l0 x3_1).f1), .int .i64 ((rd_T27 l0 x3_1).f2.f0), .int .i64 ((rd_T27 l0 x3_1).f2.f1), .int .i64 ((rd_T27 l0 x3_1).f2.f2)] 27 (0, 0)) (by (with_reducible repeat (first | refine blk_drewN ?_ _ | refine blk_drew ?_ | refine blk_alloc ?_ _)); exact BK156.out)) : gb156 ≠ gb187))
                                    have n10_ := Aside0.mk ((by rw [hg]; exact Nat.ne_of_gt (blk_lt (g := gb156) (o := .cells #[.slice A155_0 ((rd_T27 l0 x3_1).f0).length c155_0, .int .i64 ((rd_T27 l0 x3_1).f1), .int .i64 ((rd_T27 l0 x3_1).f2.f0), .int .i64 ((rd_T27 l0 x3_1).f2.f1), .int .i64 ((rd_T27 l0 x3_1).f2.f2)] 27 (0, 0)) (by (with_reducible repeat (first | refine blk_drewN ?_ _ | refine blk_drew ?_ | refine blk_alloc ?_ _)); exact BK156.out)) : gb187 ≠ gb156))
                                    have n11_ := Aside0.mk ((by rw [hg]; exact Nat.ne_of_lt (blk_lt (g := gb169) (o := .cells #[.int .i64 t165, .int .i64 t166, .int .i64 t167] 25 (0, 0)) (by (with_reducible repeat (first | refine blk_drewN ?_ _ | refine blk_drew ?_ | refine blk_alloc ?_ _)); exact BK169.out)) : gb169 ≠ gb187))
                                    have n12_ := Aside0.mk ((by rw [hg]; exact Nat.ne_of_gt (blk_lt (g := gb169) (o := .cells #[.int .i64 t165, .int .i64 t166, .int .i64 t167] 25 (0, 0)) (by (with_reducible repeat (first | refine blk_drewN ?_ _ | refine blk_drew ?_ | refine blk_alloc ?_ _)); exact BK169.out)) : gb187 ≠ gb169))
                                    clear HO_5
                                    clear HO_12
                                    clear HO182
                                    clear BK156
                                    clear BK169
                                    clear HB
                                    have HO_5 := n0_
                                    have HO_12 := n1_
                                    have HO182 := n2_
                                    have BK156 := n3_
                                    have BK169 := n4_
                                    have HB := n5_
                                    have BK187 := n6_
                                    have GW187 := n7_
                                    have GE187 := n8_
                                    have NB156_187 := n9_
                                    have NB187_156 := n10_
                                    have NB169_187 := n11_
                                    have NB187_169 := n12_
                                    clear n0_ n1_ n2_ n3_ n4_ n5_ n6_ n7_ n8_ n9_ n10_ n11_ n12_
                                    clear hb hbox hg
                                    refine hK.out _ _ ⟨(blk_cell BK156.out 0).trans rfl, (blk_cell BK156.out 1).trans rfl, (blk_cell BK156.out 2).trans rfl, (blk_cell BK156.out 3).trans rfl, (blk_cell BK156.out 4).trans rfl, HS5_, HS6_, HS7_⟩ (fun hHeld => ?_)
                                    clear hK K
                                    refine norm_ (a' := ?_) ?_ ?_
                                    rotate_left
                                    · show Act.put _ (some 15) _ = _
                                      simp only [Act.put, List.setIfInBounds_toArray, List.set_cons_zero, List.set_cons_succ, i64_w, i32_w]
                                      rfl
                                    exact norm_ (by simp only [putAll, Act.put, List.setIfInBounds_toArray, List.set_cons_zero, List.set_cons_succ]) (hCont (v181, gb187) _ ⟨hHeld, (by (with_reducible repeat (first | apply Kd.Q_alloc | apply Kd.Q_drewN | apply Kd.Q_drew)); exact Kd.Q_mono HO182.out (fun _ hk => ⟨hk.1.1.2, ⟨hk.1.1.1.2, ⟨hk.1.2, hk.2⟩⟩⟩)), (by (with_reducible repeat (first | apply Kd.R_alloc | apply Kd.R_drewN | apply Kd.R_drew)); exact Kd.R_mono HO_12.out (fun _ hk => ⟨hk.1.2, ⟨hk.1.1.1, ⟨hk.1.1.2, hk.2⟩⟩⟩)), (by (with_reducible repeat (first | apply Kd.Q_alloc | apply Kd.Q_drewN | apply Kd.Q_drew)); exact Kd.Q_mono HO_5.out (fun _ hk => ⟨hk.1.2, ⟨hk.1.1.1, ⟨hk.1.1.2, hk.2⟩⟩⟩)), (by (with_reducible repeat (first | refine blk_drewN ?_ _ | refine blk_drew ?_ | refine blk_alloc ?_ _)); exact BK156.out), (by (with_reducible repeat (first | refine blk_drewN ?_ _ | refine blk_drew ?_ | refine blk_alloc ?_ _)); exact BK169.out), (by (with_reducible repeat (first | refine blk_drewN ?_ _ | refine blk_drew ?_ | refine blk_alloc ?_ _)); exact BK187.out), GW187.out, GE187.out, NB156_187.out, NB187_156.out, NB169_187.out, NB187_169.out, (by repeat (first | (with_reducible first | exact HB.out | apply below_alloc | apply pw_below_drewN | apply below_drew1 | refine below_set ?_ GE156.out | refine below_set ?_ GE169.out | refine below_set ?_ GE187.out) | exact HB.out))⟩)
                                  · skip
                                    refine box_step ?hg (N := 15) ?hd (cs := #[.int .i64 0, .int .i64 0, .int .i64 0]) (t := 25) ?hr ?_; (case hd => rfl); (case hg => rfl); (case hr => first | (go_simp; done) | (go_simp; rfl))
                                    intro gb187 hg w77 hbox hb
                                    have HS5_ := (hb.cell (World.block_lt_of_cell? _ _ (hHeld.2.2.2.2.2.1))).trans (hHeld.2.2.2.2.2.1)
                                    have HS6_ := (hb.cell (World.block_lt_of_cell? _ _ (hHeld.2.2.2.2.2.2.1))).trans (hHeld.2.2.2.2.2.2.1)
                                    have HS7_ := (hb.cell (World.block_lt_of_cell? _ _ (hHeld.2.2.2.2.2.2.2))).trans (hHeld.2.2.2.2.2.2.2)
                                    have n0_ := Aside0.mk (Kd.Q_below (Kd.Q_elderB (by (with_reducible repeat (first | apply Kd.Q_alloc | apply Kd.Q_drewN | apply Kd.Q_drew)); exact HO_5.out) gb187 (Nat.le_of_eq hg.symm)) hb)
                                    have n1_ := Aside0.mk (Kd.R_below (Kd.R_elderB (by (with_reducible repeat (first | apply Kd.R_alloc | apply Kd.R_drewN | apply Kd.R_drew)); exact HO_12.out) gb187 (Nat.le_of_eq hg.symm)) hb)
                                    have n2_ := Aside0.mk (blk_below (g := gb156) (o := .cells #[.slice A155_0 ((rd_T27 l0 x3_1).f0).length c155_0, .int .i64 ((rd_T27 l0 x3_1).f1), .int .i64 ((rd_T27 l0 x3_1).f2.f0), .int .i64 ((rd_T27 l0 x3_1).f2.f1), .int .i64 ((rd_T27 l0 x3_1).f2.f2)] 27 (0, 0)) (by (with_reducible repeat (first | refine blk_drewN ?_ _ | refine blk_drew ?_ | refine blk_alloc ?_ _)); exact BK156.out) hb)
                                    have n3_ := Aside0.mk (blk_below (g := gb169) (o := .cells #[.int .i64 t165, .int .i64 t166, .int .i64 t167] 25 (0, 0)) (by (with_reducible repeat (first | refine blk_drewN ?_ _ | refine blk_drew ?_ | refine blk_alloc ?_ _)); exact BK169.out) hb)
                                    have n4_ := Aside0.mk (below_step (by repeat (first | (with_reducible first | exact HB.out | apply below_alloc | apply pw_below_drewN | apply below_drew1 | refine below_set ?_ GE156.out | refine below_set ?_ GE169.out) | exact HB.out)) hb)
                                    have n5_ := Aside0.mk (hbox)
                                    have n6_ := Aside0.mk ((by rw [hg]; exact (below_size (by repeat (first | (with_reducible first | exact HB.out | apply below_alloc | apply pw_below_drewN | apply below_drew1 | refine below_set ?_ GE156.out | refine below_set ?_ GE169.out) | exact HB.out))) : w.heap.size ≤ gb187))
                                    have n7_ := Aside0.mk ((by rw [hg]; exact (below_size (by repeat (first | (with_reducible first | exact HB.out | apply below_alloc | apply pw_below_drewN | apply below_drew1 | refine below_set ?_ GE156.out | refine below_set ?_ GE169.out) | exact HB.out))) : w.heap.size ≤ gb187))
                                    have n8_ := Aside0.mk ((by rw [hg]; exact Nat.ne_of_lt (blk_lt (g := gb156) (o := .cells #[.slice A155_0 ((rd_T27 l0 x3_1).f0).length c155_0, .int .i64 ((rd_T27 l0 x3_1).f1), .int .i64 ((rd_T27 l0 x3_1).f2.f0), .int .i64 ((rd_T27 l0 x3_1).f2.f1), .int .i64 ((rd_T27 l0 x3_1).f2.f2)] 27 (0, 0)) (by (with_reducible repeat (first | refine blk_drewN ?_ _ | refine blk_drew ?_ | refine blk_alloc ?_ _)); exact BK156.out)) : gb156 ≠ gb187))
                                    have n9_ := Aside0.mk ((by rw [hg]; exact Nat.ne_of_gt (blk_lt (g := gb156) (o := .cells #[.slice A155_0 ((rd_T27 l0 x3_1).f0).length c155_0, .int .i64 ((rd_T27 l0 x3_1).f1), .int .i64 ((rd_T27 l0 x3_1).f2.f0), .int .i64 ((rd_T27 l0 x3_1).f2.f1), .int .i64 ((rd_T27 l0 x3_1).f2.f2)] 27 (0, 0)) (by (with_reducible repeat (first | refine blk_drewN ?_ _ | refine blk_drew ?_ | refine blk_alloc ?_ _)); exact BK156.out)) : gb187 ≠ gb156))
                                    have n10_ := Aside0.mk ((by rw [hg]; exact Nat.ne_of_lt (blk_lt (g := gb169) (o := .cells #[.int .i64 t165, .int .i64 t166, .int .i64 t167] 25 (0, 0)) (by (with_reducible repeat (first | refine blk_drewN ?_ _ | refine blk_drew ?_ | refine blk_alloc ?_ _)); exact BK169.out)) : gb169 ≠ gb187))
                                    have n11_ := Aside0.mk ((by rw [hg]; exact Nat.ne_of_gt (blk_lt (g := gb169) (o := .cells #[.int .i64 t165, .int .i64 t166, .int .i64 t167] 25 (0, 0)) (by (with_reducible repeat (first | refine blk_drewN ?_ _ | refine blk_drew ?_ | refine blk_alloc ?_ _)); exact BK169.out)) : gb187 ≠ gb169))
                                    clear HO_5
                                    clear HO_12
                                    clear BK156
                                    clear BK169
                                    clear HB
                                    have HO_5 := n0_
                                    have HO_12 := n1_
                                    have BK156 := n2_
                                    have BK169 := n3_
                                    have HB := n4_
                                    have BK187 := n5_
                                    have GW187 := n6_
                                    have GE187 := n7_
                                    have NB156_187 := n8_
                                    have NB187_156 := n9_
                                    have NB169_187 := n10_
                                    have NB187_169 := n11_
                                    clear n0_ n1_ n2_ n3_ n4_ n5_ n6_ n7_ n8_ n9_ n10_ n11_
                                    clear hb hbox hg
                                    refine hK.out _ _ ⟨(blk_cell BK156.out 0).trans rfl, (blk_cell BK156.out 1).trans rfl, (blk_cell BK156.out 2).trans rfl, (blk_cell BK156.out 3).trans rfl, (blk_cell BK156.out 4).trans rfl, HS5_, HS6_, HS7_⟩ (fun hHeld => ?_)
                                    clear hK K
                                    refine norm_ (a' := ?_) ?_ ?_
                                    rotate_left
                                    · show Act.put _ (some 15) _ = _
                                      simp only [Act.put, List.setIfInBounds_toArray, List.set_cons_zero, List.set_cons_succ, i64_w, i32_w]
                                      rfl
                                    refine one_ (i := 6) (N := some 145) #[true, true, true, true, true, true, true, false, false, false, false, true, false, false, false] rfl rfl (one_of HT_.out (by kernel_rfl)) (by decide) (fun K hK => ?_)
                                    refine goes_ Try.func9 (by kernel_rfl) rfl #[.slice Ao75 x12_7.length co75, .int .i64 ((rd_T27 l0 x3_1).f1), .agg #[.int .i64 ((rd_T25 t162 0).f0), .int .i64 ((rd_T25 t162 0).f1), .int .i64 ((rd_T25 t162 0).f2)]] (by rfl) rfl rfl (by (try simp only [List.map_toArray, List.map_cons, List.map_nil]); first | done | rfl | (simp only [List.length_drop, List.length_take]; rfl)) ?_
                                    with_reducible refine (median_Take.calls k7 _ _ x12_7 ((rd_T27 l0 x3_1).f1) ((rd_T25 t162 0).f0) ((rd_T25 t162 0).f1) ((rd_T25 t162 0).f2) t180 t183 t184 t185 t186 _ ?side1 ?side2 A71.out).mono ?_
                                    (case side1 => repeat (first | exact (Kd.R_reads' HO_12.out).2.2 | (with_reducible refine Kd.C_alloc ?_ _) | (with_reducible refine Kd.C_drewN ?_ _) | (with_reducible refine Kd.C_drew ?_)))
                                    (case side2 => exact (Kd.R_reads' HO_12.out).2.1)
                                    rintro e w78 ⟨v181, rfl, ho0, hb⟩
                                    have HS5_ := (hb.cell (World.block_lt_of_cell? _ _ (hHeld.2.2.2.2.2.1))).trans (hHeld.2.2.2.2.2.1)
                                    have HS6_ := (hb.cell (World.block_lt_of_cell? _ _ (hHeld.2.2.2.2.2.2.1))).trans (hHeld.2.2.2.2.2.2.1)
                                    have HS7_ := (hb.cell (World.block_lt_of_cell? _ _ (hHeld.2.2.2.2.2.2.2))).trans (hHeld.2.2.2.2.2.2.2)
                                    refine ⟨_, rfl, ?_⟩
                                    have n0_ := Aside0.mk (Kd.Q_elder' (by (with_reducible repeat (first | apply Kd.Q_alloc | apply Kd.Q_drewN | apply Kd.Q_drew)); exact HO_5.out) (Kd.Q_base ho0) hb)
                                    have n1_ := Aside0.mk (Kd.R_elder' (by (with_reducible repeat (first | apply Kd.R_alloc | apply Kd.R_drewN | apply Kd.R_drew)); exact HO_12.out) (Kd.Q_base ho0) hb)
                                    have n2_ := Aside0.mk (Kd.Q_lower (Kd.Q_newB (Kd.Q_newB (Kd.Q_new' (Kd.Q_new' ho0 (Kd.Q_lt (by (with_reducible repeat (first | apply Kd.Q_alloc | apply Kd.Q_drewN | apply Kd.Q_drew)); exact HO_5.out))) (Kd.R_lt (by (with_reducible repeat (first | apply Kd.R_alloc | apply Kd.R_drewN | apply Kd.R_drew)); exact HO_12.out))) (g := gb169) (o := .cells #[.int .i64 t165, .int .i64 t166, .int .i64 t167] 25 (0, 0)) (by (with_reducible repeat (first | refine blk_drewN ?_ _ | refine blk_drew ?_ | refine blk_alloc ?_ _)); exact BK169.out)) (g := gb187) (o := .cells #[.int .i64 0, .int .i64 0, .int .i64 0] 25 (0, 0)) (by (with_reducible repeat (first | refine blk_drewN ?_ _ | refine blk_drew ?_ | refine blk_alloc ?_ _)); exact BK187.out)) (below_size (by repeat (first | (with_reducible first | exact HB.out | apply below_alloc | apply pw_below_drewN | apply below_drew1 | refine below_set ?_ GE156.out | refine below_set ?_ GE169.out | refine below_set ?_ GE187.out) | exact HB.out))))
                                    have n3_ := Aside0.mk (blk_below (g := gb156) (o := .cells #[.slice A155_0 ((rd_T27 l0 x3_1).f0).length c155_0, .int .i64 ((rd_T27 l0 x3_1).f1), .int .i64 ((rd_T27 l0 x3_1).f2.f0), .int .i64 ((rd_T27 l0 x3_1).f2.f1), .int .i64 ((rd_T27 l0 x3_1).f2.f2)] 27 (0, 0)) (by (with_reducible repeat (first | refine blk_drewN ?_ _ | refine blk_drew ?_ | refine blk_alloc ?_ _)); exact BK156.out) hb)
                                    have n4_ := Aside0.mk (blk_below (g := gb169) (o := .cells #[.int .i64 t165, .int .i64 t166, .int .i64 t167] 25 (0, 0)) (by (with_reducible repeat (first | refine blk_drewN ?_ _ | refine blk_drew ?_ | refine blk_alloc ?_ _)); exact BK169.out) hb)
                                    have n5_ := Aside0.mk (blk_below (g := gb187) (o := .cells #[.int .i64 0, .int .i64 0, .int .i64 0] 25 (0, 0)) (by (with_reducible repeat (first | refine blk_drewN ?_ _ | refine blk_drew ?_ | refine blk_alloc ?_ _)); exact BK187.out) hb)
                                    have n6_ := Aside0.mk (below_step (by repeat (first | (with_reducible first | exact HB.out | apply below_alloc | apply pw_below_drewN | apply below_drew1 | refine below_set ?_ GE156.out | refine below_set ?_ GE169.out | refine below_set ?_ GE187.out) | exact HB.out)) hb)
                                    clear HO_5
                                    clear HO_12
                                    clear BK156
                                    clear BK169
                                    clear BK187
                                    clear HB
                                    have HO_5 := n0_
                                    have HO_12 := n1_
                                    have HO182 := n2_
                                    have BK156 := n3_
                                    have BK169 := n4_
                                    have BK187 := n5_
                                    have HB := n6_
                                    clear n0_ n1_ n2_ n3_ n4_ n5_ n6_
                                    (try clear hb)
                                    (try clear hb2)
                                    (try clear hk)
                                    (try clear hi)
                                    (try clear ho0)
                                    refine hK.out _ _ ⟨(blk_cell BK156.out 0).trans rfl, (blk_cell BK156.out 1).trans rfl, (blk_cell BK156.out 2).trans rfl, (blk_cell BK156.out 3).trans rfl, (blk_cell BK156.out 4).trans rfl, HS5_, HS6_, HS7_⟩ (fun hHeld => ?_)
                                    clear hK K
                                    refine norm_ (a' := ?_) ?_ ?_
                                    rotate_left
                                    · show Act.put _ (some 145) _ = _
                                      simp only [Act.put, List.setIfInBounds_toArray, List.set_cons_zero, List.set_cons_succ, i64_w, i32_w]
                                      rfl
                                    refine pure_ (i := 7) (N := some 138) (v := ?_) (a' := ?_) #[true, true, true, true, true, true, true, true, false, false, false, true, false, false, false] rfl rfl (any_of HT_.out (by kernel_rfl)) (fun _ _ _ h => h) (Or.inl ⟨by rfl, ?_⟩) ?_ ?_
                                    rotate_left
                                    · intro w'
                                      go_simp
                                      with_reducible rfl
                                    rotate_left
                                    · simp only [Act.put, List.setIfInBounds_toArray, List.set_cons_zero, List.set_cons_succ, i64_w, i32_w]
                                      rfl
                                    refine pure_ (i := 8) (N := some 146) (v := ?_) (a' := ?_) #[true, true, true, true, true, true, true, true, true, false, false, true, false, false, false] rfl rfl (any_of HT_.out (by kernel_rfl)) (fun _ _ _ h => h) (Or.inl ⟨by rfl, ?_⟩) ?_ ?_
                                    rotate_left
                                    · intro w'
                                      go_simp
                                      with_reducible rfl
                                    rotate_left
                                    · simp only [Act.put, List.setIfInBounds_toArray, List.set_cons_zero, List.set_cons_succ, i64_w, i32_w]
                                      rfl
                                    refine pure_ (i := 9) (N := some 147) (v := ?_) (a' := ?_) #[true, true, true, true, true, true, true, true, true, true, false, true, false, false, false] rfl rfl (any_of HT_.out (by kernel_rfl)) (fun _ _ _ h => h) (Or.inl ⟨by rfl, ?_⟩) ?_ ?_
                                    rotate_left
                                    · intro w'
                                      go_simp
                                      with_reducible rfl
                                    rotate_left
                                    · simp only [Act.put, List.setIfInBounds_toArray, List.set_cons_zero, List.set_cons_succ, i64_w, i32_w]
                                      rfl
                                    refine pure_ (i := 10) (N := some 148) (v := ?_) (a' := ?_) #[true, true, true, true, true, true, true, true, true, true, true, true, false, false, false] rfl rfl (any_of HT_.out (by kernel_rfl)) (fun _ _ _ h => h) (Or.inl ⟨by rfl, ?_⟩) ?_ ?_
                                    rotate_left
                                    · intro w'
                                      go_simp
                                      with_reducible rfl
                                    rotate_left
                                    · simp only [Act.put, List.setIfInBounds_toArray, List.set_cons_zero, List.set_cons_succ, i64_w, i32_w]
                                      rfl
                                    exact norm_ (by simp only [putAll, Act.put, List.setIfInBounds_toArray, List.set_cons_zero, List.set_cons_succ]) (hCont (v181, gb187) _ ⟨hHeld, (by (with_reducible repeat (first | apply Kd.Q_alloc | apply Kd.Q_drewN | apply Kd.Q_drew)); exact Kd.Q_mono HO182.out (fun _ hk => ⟨hk.1.1.2, ⟨hk.1.1.1.2, ⟨hk.1.2, hk.2⟩⟩⟩)), (by (with_reducible repeat (first | apply Kd.R_alloc | apply Kd.R_drewN | apply Kd.R_drew)); exact Kd.R_mono HO_12.out (fun _ hk => ⟨hk.2, ⟨hk.1.1.1, ⟨hk.1.1.2, hk.1.2⟩⟩⟩)), (by (with_reducible repeat (first | apply Kd.Q_alloc | apply Kd.Q_drewN | apply Kd.Q_drew)); exact Kd.Q_mono HO_5.out (fun _ hk => ⟨hk.2, ⟨hk.1.1.1, ⟨hk.1.1.2, hk.1.2⟩⟩⟩)), (by (with_reducible repeat (first | refine blk_drewN ?_ _ | refine blk_drew ?_ | refine blk_alloc ?_ _)); exact BK156.out), (by (with_reducible repeat (first | refine blk_drewN ?_ _ | refine blk_drew ?_ | refine blk_alloc ?_ _)); exact BK169.out), (by (with_reducible repeat (first | refine blk_drewN ?_ _ | refine blk_drew ?_ | refine blk_alloc ?_ _)); exact BK187.out), GW187.out, GE187.out, NB156_187.out, NB187_156.out, NB169_187.out, NB187_169.out, (by repeat (first | (with_reducible first | exact HB.out | apply below_alloc | apply pw_below_drewN | apply below_drew1 | refine below_set ?_ GE156.out | refine below_set ?_ GE169.out | refine below_set ?_ GE187.out) | exact HB.out))⟩)
                                rintro ⟨v181, gb187⟩ w79 ⟨hS_, h0_, h1_, h2_, h3_, h4_, h5_, h6_, h7_, h8_, h9_, h10_, h11_, h12_⟩
                                have n0_ : Aside0 (Kd.Q k25 25 w79 w.heap.size (fun k_ => some k_ ≠ (.slice Ao75 x12_7.length co75 : Value).ownBlock ∧ some k_ ≠ (.slice (some ad179) t162.length co57 : Value).ownBlock ∧ k_ ≠ gb169 ∧ k_ ≠ gb187) v181 t180) := ⟨h0_⟩
                                have n1_ : Aside0 (Kd.R k25 25 w79 w.heap.size (fun k_ => some k_ ≠ (v181 : Value).ownBlock ∧ some k_ ≠ (.slice (some ad179) t162.length co57 : Value).ownBlock ∧ k_ ≠ gb169 ∧ k_ ≠ gb187) (.slice Ao75 x12_7.length co75) x12_7) := ⟨h1_⟩
                                have n2_ : Aside0 (Kd.Q k25 25 w79 w.heap.size (fun k_ => some k_ ≠ (v181 : Value).ownBlock ∧ some k_ ≠ (.slice Ao75 x12_7.length co75 : Value).ownBlock ∧ k_ ≠ gb169 ∧ k_ ≠ gb187) (.slice (some ad179) t162.length co57) t162) := ⟨h2_⟩
                                have n3_ : Aside0 (w79.heap[gb156]? = some (.cells #[.slice A155_0 ((rd_T27 l0 x3_1).f0).length c155_0, .int .i64 ((rd_T27 l0 x3_1).f1), .int .i64 ((rd_T27 l0 x3_1).f2.f0), .int .i64 ((rd_T27 l0 x3_1).f2.f1), .int .i64 ((rd_T27 l0 x3_1).f2.f2)] 27 (0, 0))) := ⟨h3_⟩
                                have n4_ : Aside0 (w79.heap[gb169]? = some (.cells #[.int .i64 t165, .int .i64 t166, .int .i64 t167] 25 (0, 0))) := ⟨h4_⟩
                                have n5_ : Aside0 (w79.heap[gb187]? = some (.cells #[.int .i64 0, .int .i64 0, .int .i64 0] 25 (0, 0))) := ⟨h5_⟩
                                have n6_ : Aside0 (w.heap.size ≤ gb187) := ⟨h6_⟩
                                have n7_ : Aside0 (w.heap.size ≤ gb187) := ⟨h7_⟩
                                have n8_ : Aside0 (gb156 ≠ gb187) := ⟨h8_⟩
                                have n9_ : Aside0 (gb187 ≠ gb156) := ⟨h9_⟩
                                have n10_ : Aside0 (gb169 ≠ gb187) := ⟨h10_⟩
                                have n11_ : Aside0 (gb187 ≠ gb169) := ⟨h11_⟩
                                have n12_ : Aside0 (Below w.heap.size w w79) := ⟨h12_⟩
                                clear HO_5
                                clear HO_12
                                clear BK156
                                clear BK169
                                clear HB
                                clear h0_ h1_ h2_ h3_ h4_ h5_ h6_ h7_ h8_ h9_ h10_ h11_ h12_
                                have HO182 := n0_
                                have HO_12 := n1_
                                have HO_5 := n2_
                                have BK156 := n3_
                                have BK169 := n4_
                                have BK187 := n5_
                                have GW187 := n6_
                                have GE187 := n7_
                                have NB156_187 := n8_
                                have NB187_156 := n9_
                                have NB169_187 := n10_
                                have NB187_169 := n11_
                                have HB := n12_
                                clear n0_ n1_ n2_ n3_ n4_ n5_ n6_ n7_ n8_ n9_ n10_ n11_ n12_
                                have hHeld : w79.cell? ⟨gb156, 0, none⟩ = some (.slice A155_0 ((rd_T27 l0 x3_1).f0).length c155_0) ∧ w79.cell? ⟨gb156, 1, none⟩ = some (.int .i64 ((rd_T27 l0 x3_1).f1)) ∧ w79.cell? ⟨gb156, 2, none⟩ = some (.int .i64 ((rd_T27 l0 x3_1).f2.f0)) ∧ w79.cell? ⟨gb156, 3, none⟩ = some (.int .i64 ((rd_T27 l0 x3_1).f2.f1)) ∧ w79.cell? ⟨gb156, 4, none⟩ = some (.int .i64 ((rd_T27 l0 x3_1).f2.f2)) ∧ w79.cell? ad179 = some (.int .i64 ((rd_T25 t162 0).f0)) ∧ w79.cell? ⟨ad179.block, ad179.off + 1, none⟩ = some (.int .i64 ((rd_T25 t162 0).f1)) ∧ w79.cell? ⟨ad179.block, ad179.off + 2, none⟩ = some (.int .i64 ((rd_T25 t162 0).f2)) := hS_
                                refine norm_ (a' := ?_) ?_ ?_
                                rotate_left
                                · simp only [putAll, Act.put, List.setIfInBounds_toArray, List.set_cons_zero, List.set_cons_succ]
                                  rfl
                                refine pure_ (i := 12) (N := some 14) (v := ?_) (a' := ?_) #[true, true, true, true, true, true, true, true, true, true, true, true, true, false, false] rfl rfl (any_of HT_.out (by kernel_rfl)) (fun _ _ _ h => h) (Or.inl ⟨by rfl, ?_⟩) ?_ ?_
                                rotate_left
                                · intro w'
                                  go_simp
                                  with_reducible rfl
                                rotate_left
                                · simp only [Act.put, List.setIfInBounds_toArray, List.set_cons_zero, List.set_cons_succ, i64_w, i32_w]
                                  rfl
                                refine one_ (i := 13) (N := none) #[true, true, true, true, true, true, true, true, true, true, true, true, true, true, false] rfl rfl (one_of HT_.out (by kernel_rfl)) (by decide) (fun K hK => ?_)
                                have hs80 : w79.cell? ⟨gb187, 0, none⟩ = some (.int .i64 0) := (blk_cell BK187.out 0).trans rfl
                                have hfs80 := blk_frozen BK187.out 0
                                have hns80_0 := NB156_187.out
                                have hns80_1 := NB169_187.out
                                have hms80_0 := NB187_156.out
                                have hms80_1 := NB187_169.out
                                have hs81 : w79.cell? ⟨gb187, 1, none⟩ = some (.int .i64 0) := (blk_cell BK187.out 1).trans rfl
                                have hfs81 := blk_frozen BK187.out 1
                                have hns81_0 := NB156_187.out
                                have hns81_1 := NB169_187.out
                                have hms81_0 := NB187_156.out
                                have hms81_1 := NB187_169.out
                                have hs82 : w79.cell? ⟨gb187, 2, none⟩ = some (.int .i64 0) := (blk_cell BK187.out 2).trans rfl
                                have hfs82 := blk_frozen BK187.out 2
                                have hns82_0 := NB156_187.out
                                have hns82_1 := NB169_187.out
                                have hms82_0 := NB187_156.out
                                have hms82_1 := NB187_169.out
                                refine skip_ (w1 := ?_) (by rfl) rfl ?_ ?_
                                rotate_left
                                · go_simp
                                  rfl
                                refine hK.out _ _ ⟨((cell_far (p := ⟨gb187, _, none⟩) NB156_187.out _).trans (((cell_far (p := ⟨gb187, _, none⟩) NB156_187.out _).trans (((cell_far (p := ⟨gb187, _, none⟩) NB156_187.out _).trans (hHeld.1)))))), ((cell_far (p := ⟨gb187, _, none⟩) NB156_187.out _).trans (((cell_far (p := ⟨gb187, _, none⟩) NB156_187.out _).trans (((cell_far (p := ⟨gb187, _, none⟩) NB156_187.out _).trans (hHeld.2.1)))))), ((cell_far (p := ⟨gb187, _, none⟩) NB156_187.out _).trans (((cell_far (p := ⟨gb187, _, none⟩) NB156_187.out _).trans (((cell_far (p := ⟨gb187, _, none⟩) NB156_187.out _).trans (hHeld.2.2.1)))))), ((cell_far (p := ⟨gb187, _, none⟩) NB156_187.out _).trans (((cell_far (p := ⟨gb187, _, none⟩) NB156_187.out _).trans (((cell_far (p := ⟨gb187, _, none⟩) NB156_187.out _).trans (hHeld.2.2.2.1)))))), ((cell_far (p := ⟨gb187, _, none⟩) NB156_187.out _).trans (((cell_far (p := ⟨gb187, _, none⟩) NB156_187.out _).trans (((cell_far (p := ⟨gb187, _, none⟩) NB156_187.out _).trans (hHeld.2.2.2.2.1)))))), ((cell_far (p := ⟨gb187, _, none⟩) (by first | (dsimp only; exact Kd.own_blk (Kd.Q_away HO_5.out (fun _ hk => hk.2.2.2))) | exact Kd.own_blk (Kd.Q_away HO_5.out (fun _ hk => hk.2.2.2)) | (rw [add_block]; exact Kd.own_blk (Kd.Q_away HO_5.out (fun _ hk => hk.2.2.2))) | (show (Addr.add _ _).block ≠ _; rw [add_block]; exact Kd.own_blk (Kd.Q_away HO_5.out (fun _ hk => hk.2.2.2)))) _).trans (((cell_far (p := ⟨gb187, _, none⟩) (by first | (dsimp only; exact Kd.own_blk (Kd.Q_away HO_5.out (fun _ hk => hk.2.2.2))) | exact Kd.own_blk (Kd.Q_away HO_5.out (fun _ hk => hk.2.2.2)) | (rw [add_block]; exact Kd.own_blk (Kd.Q_away HO_5.out (fun _ hk => hk.2.2.2))) | (show (Addr.add _ _).block ≠ _; rw [add_block]; exact Kd.own_blk (Kd.Q_away HO_5.out (fun _ hk => hk.2.2.2)))) _).trans (((cell_far (p := ⟨gb187, _, none⟩) (by first | (dsimp only; exact Kd.own_blk (Kd.Q_away HO_5.out (fun _ hk => hk.2.2.2))) | exact Kd.own_blk (Kd.Q_away HO_5.out (fun _ hk => hk.2.2.2)) | (rw [add_block]; exact Kd.own_blk (Kd.Q_away HO_5.out (fun _ hk => hk.2.2.2))) | (show (Addr.add _ _).block ≠ _; rw [add_block]; exact Kd.own_blk (Kd.Q_away HO_5.out (fun _ hk => hk.2.2.2)))) _).trans (hHeld.2.2.2.2.2.1)))))), ((cell_far (p := ⟨gb187, _, none⟩) (by first | (dsimp only; exact Kd.own_blk (Kd.Q_away HO_5.out (fun _ hk => hk.2.2.2))) | exact Kd.own_blk (Kd.Q_away HO_5.out (fun _ hk => hk.2.2.2)) | (rw [add_block]; exact Kd.own_blk (Kd.Q_away HO_5.out (fun _ hk => hk.2.2.2))) | (show (Addr.add _ _).block ≠ _; rw [add_block]; exact Kd.own_blk (Kd.Q_away HO_5.out (fun _ hk => hk.2.2.2)))) _).trans (((cell_far (p := ⟨gb187, _, none⟩) (by first | (dsimp only; exact Kd.own_blk (Kd.Q_away HO_5.out (fun _ hk => hk.2.2.2))) | exact Kd.own_blk (Kd.Q_away HO_5.out (fun _ hk => hk.2.2.2)) | (rw [add_block]; exact Kd.own_blk (Kd.Q_away HO_5.out (fun _ hk => hk.2.2.2))) | (show (Addr.add _ _).block ≠ _; rw [add_block]; exact Kd.own_blk (Kd.Q_away HO_5.out (fun _ hk => hk.2.2.2)))) _).trans (((cell_far (p := ⟨gb187, _, none⟩) (by first | (dsimp only; exact Kd.own_blk (Kd.Q_away HO_5.out (fun _ hk => hk.2.2.2))) | exact Kd.own_blk (Kd.Q_away HO_5.out (fun _ hk => hk.2.2.2)) | (rw [add_block]; exact Kd.own_blk (Kd.Q_away HO_5.out (fun _ hk => hk.2.2.2))) | (show (Addr.add _ _).block ≠ _; rw [add_block]; exact Kd.own_blk (Kd.Q_away HO_5.out (fun _ hk => hk.2.2.2)))) _).trans (hHeld.2.2.2.2.2.2.1)))))), ((cell_far (p := ⟨gb187, _, none⟩) (by first | (dsimp only; exact Kd.own_blk (Kd.Q_away HO_5.out (fun _ hk => hk.2.2.2))) | exact Kd.own_blk (Kd.Q_away HO_5.out (fun _ hk => hk.2.2.2)) | (rw [add_block]; exact Kd.own_blk (Kd.Q_away HO_5.out (fun _ hk => hk.2.2.2))) | (show (Addr.add _ _).block ≠ _; rw [add_block]; exact Kd.own_blk (Kd.Q_away HO_5.out (fun _ hk => hk.2.2.2)))) _).trans (((cell_far (p := ⟨gb187, _, none⟩) (by first | (dsimp only; exact Kd.own_blk (Kd.Q_away HO_5.out (fun _ hk => hk.2.2.2))) | exact Kd.own_blk (Kd.Q_away HO_5.out (fun _ hk => hk.2.2.2)) | (rw [add_block]; exact Kd.own_blk (Kd.Q_away HO_5.out (fun _ hk => hk.2.2.2))) | (show (Addr.add _ _).block ≠ _; rw [add_block]; exact Kd.own_blk (Kd.Q_away HO_5.out (fun _ hk => hk.2.2.2)))) _).trans (((cell_far (p := ⟨gb187, _, none⟩) (by first | (dsimp only; exact Kd.own_blk (Kd.Q_away HO_5.out (fun _ hk => hk.2.2.2))) | exact Kd.own_blk (Kd.Q_away HO_5.out (fun _ hk => hk.2.2.2)) | (rw [add_block]; exact Kd.own_blk (Kd.Q_away HO_5.out (fun _ hk => hk.2.2.2))) | (show (Addr.add _ _).block ≠ _; rw [add_block]; exact Kd.own_blk (Kd.Q_away HO_5.out (fun _ hk => hk.2.2.2)))) _).trans (hHeld.2.2.2.2.2.2.2))))))⟩ (fun hHeld => ?_)
                                clear hK K
                                refine pure_ (i := 14) (N := some 16) (v := ?_) (a' := ?_) #[true, true, true, true, true, true, true, true, true, true, true, true, true, true, true] rfl rfl (any_of HT_.out (by kernel_rfl)) (fun _ _ _ h => h) (Or.inl ⟨by rfl, ?_⟩) ?_ ?_
                                rotate_left
                                · intro w'
                                  go_simp
                                  with_reducible rfl
                                rotate_left
                                · simp only [Act.put, List.setIfInBounds_toArray, List.set_cons_zero, List.set_cons_succ, i64_w, i32_w]
                                  rfl
                                refine done_ (done_of HT_.out (by kernel_rfl)) ?_
                                try go_wp2_with (first | ((with_reducible refine gate_callee (f := 10) rfl ?_); refine goesL_ (some 150) rfl rfl Try.func10 (by kernel_rfl) rfl #[.int .i64 t186] rfl (by (try simp only [List.map_toArray, List.map_cons, List.map_nil]); first | done | rfl | (simp only [List.length_drop, List.length_take]; rfl)) ?_; (with_reducible refine (gimballaw13_num.calls t186 t188 _ A72.out).mono ?_); rintro e w' ⟨rfl, ⟨nd, rfl⟩⟩; refine ⟨_, rfl, ?_⟩; have hnb83 := NB187_156.out; have hnc83 := NB156_187.out; have hnb84 := NB187_169.out; have hnc84 := NB169_187.out; have hcz85_0 : w79.cell? ⟨gb187, 0, none⟩ = some (.int .i64 0) := (blk_cell BK187.out 0).trans rfl; have hcz85_1 : w79.cell? ⟨gb187, 1, none⟩ = some (.int .i64 0) := (blk_cell BK187.out 1).trans rfl; have hcz85_2 : w79.cell? ⟨gb187, 2, none⟩ = some (.int .i64 0) := (blk_cell BK187.out 2).trans rfl; have hfz85_0 := blk_frozen BK187.out 0; have hfz85_1 := blk_frozen BK187.out 1; have hfz85_2 := blk_frozen BK187.out 2; have hnb86 := NB169_156.out; have hnc86 := NB156_169.out; have hcz87_0 : w79.cell? ⟨gb169, 0, none⟩ = some (.int .i64 t165) := (blk_cell BK169.out 0).trans rfl; have hcz87_1 : w79.cell? ⟨gb169, 1, none⟩ = some (.int .i64 t166) := (blk_cell BK169.out 1).trans rfl; have hcz87_2 : w79.cell? ⟨gb169, 2, none⟩ = some (.int .i64 t167) := (blk_cell BK169.out 2).trans rfl; have hfz87_0 := blk_frozen BK169.out 0; have hfz87_1 := blk_frozen BK169.out 1; have hfz87_2 := blk_frozen BK169.out 2))
                                go_roundg k7
                                case measure => have := HK1.out; have := HJ1.out; have := HJ6.out; have := HJ21.out; have := HK5.out; have := HJ55.out; have := HK7.out; omega
                                case rel => exact ⟨(wrap64 (x3_1 + 1)), (by first | rfl | (simp; done) | (simp [*]; done)), H', ⟨by have := HK1.out; have := HJ1.out; have := HJ6.out; have := HJ21.out; have := HK5.out; have := HJ55.out; have := HK7.out; omega⟩, ⟨by repeat (first | (with_reducible first | exact HB.out | apply below_alloc | apply pw_below_drewN | apply below_drew1 | refine below_set ?_ GE156.out | refine below_set ?_ GE169.out | refine below_set ?_ GE187.out) | exact HB.out)⟩⟩
          replace c4 := Bool.eq_false_iff.mpr c4
          subst c4
          have H1 : ((gimballaw13_wakes.f kj1).bind fun t154 => (some t154)) = some r := by rw [if_neg (show ¬ (false = true) by decide)] at H; exact H
          clear H
          have H := H1
          clear H1
          replace H := Option.bind_eq_some_iff.mp H
          obtain ⟨t154, A880, H⟩ := H
          replace H : (some t154) = some r := H
          have A88 := Aside0.mk A880
          clear A880
          obtain rfl := Option.some.inj H
          go_wp2_with (first | ((with_reducible refine gate_callee (f := 13) rfl ?_); refine goesL_ (some 157) rfl rfl Try.func13 (by kernel_rfl) rfl #[] rfl (by (try simp only [List.map_toArray, List.map_cons, List.map_nil]); first | done | rfl | (simp only [List.length_drop, List.length_take]; rfl)) ?_; (with_reducible refine (gimballaw13_wakes.calls kj1  t154 _ A88.out).mono ?_); rintro e w89 ⟨rfl, hb⟩; refine ⟨_, rfl, ?_⟩; have n0_ := Aside0.mk (below_step (by repeat (first | (with_reducible first | exact HB.out | apply below_alloc | apply pw_below_drewN | apply below_drew1) | exact HB.out)) hb); clear HB; have HB := n0_; clear n0_; (try clear hb); (try clear hb2); (try clear hk); (try clear hi)))
          go_ret
          exact ⟨by first | rfl | (simp [errW_none, errW_some] <;> rfl) | (simp [*, errW_none, errW_some] <;> rfl), by repeat (first | (with_reducible first | exact HB.out | apply below_alloc | apply pw_below_drewN | apply below_drew1) | exact HB.out)⟩

end Go.Proofs.Ytbicnidbffibbaa.PMedianMiddle
