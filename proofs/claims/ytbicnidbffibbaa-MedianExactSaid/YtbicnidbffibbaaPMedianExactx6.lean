import Derived.Test.YtbicnidbffibbaaPMedianExactx0
import Derived.Test.YtbicnidbffibbaaPMedianExactx1
import Derived.Test.YtbicnidbffibbaaPMedianExactx2
import Derived.Test.YtbicnidbffibbaaPMedianExactx3
import Derived.Test.YtbicnidbffibbaaPMedianExactx4
import Derived.Test.YtbicnidbffibbaaPMedianExactx5
namespace Go.Proofs.Ytbicnidbffibbaa.PMedianExact
open Go.RowKit Go.Proofs.YtbicnidbffibbaaW.PrintWords Go.Proofs.YtbicnidbffibbaaW.PrintLast Go.Proofs.YtbicnidbffibbaaW.PrintMore
attribute [local go_sem] max2_int min2_int max_two min_two max_three min_three max_four min_four   -- for this text's walks alone
set_option linter.unusedVariables false
set_option linter.unusedSimpArgs false

attribute [local go_sem high] eqA25
/-! ### gimballaw13_MedianExact: function 3 -/
mutual
def gimballaw13_MedianExact.l0 : Nat → List (S27) → Int → Option (Bool)
  | 0, _, _ => none
  | k + 1, x0, x3 => if x3 < (x0.length : Int) then (gimballaw13_MedianExact.j1 k x0 x3 (decide (x3 < 20))) else (gimballaw13_MedianExact.j1 k x0 x3 false)
def gimballaw13_MedianExact.j1 : Nat → List (S27) → Int → Bool → Option (Bool)
  | 0, _, _, _ => none
  | k + 1, x0, x3, x19 => if x19 = true then (if 0 ≤ x3 then (if x3 < (x0.length : Int) then (if (((rd_T27 x0 x3).f0).length : Int) > 50 then (some true) else ((gimballaw13_may.f k ((rd_T27 x0 x3).f0) ((rd_T27 x0 x3).f1) ((rd_T27 x0 x3).f2.f0) ((rd_T27 x0 x3).f2.f1) ((rd_T27 x0 x3).f2.f2)).bind fun t213 => (if t213 = true then ((gimbalref10_Median.f k ((rd_T27 x0 x3).f0) ((rd_T27 x0 x3).f1) ((rd_T27 x0 x3).f2.f0) ((rd_T27 x0 x3).f2.f1) ((rd_T27 x0 x3).f2.f2)).bind fun bt214 => (gimballaw13_MedianExact.j2 k x0 x3 0 bt214.1 ((rd_T27 x0 x3).f0) ((rd_T27 x0 x3).f1) ((rd_T27 x0 x3).f2.f0) ((rd_T27 x0 x3).f2.f1) ((rd_T27 x0 x3).f2.f2) bt214.2.1 bt214.2.2.1 bt214.2.2.2)) else (gimballaw13_MedianExact.j2 k x0 x3 1 ([] : List (S25)) ((rd_T27 x0 x3).f0) ((rd_T27 x0 x3).f1) ((rd_T27 x0 x3).f2.f0) ((rd_T27 x0 x3).f2.f1) ((rd_T27 x0 x3).f2.f2) 0 0 0)))) else (none)) else (none)) else ((gimballaw13_wakes.f k).bind fun t209 => (some t209))
def gimballaw13_MedianExact.j2 : Nat → List (S27) → Int → Int → List (S25) → List (S25) → Int → Int → Int → Int → Int → Int → Int → Option (Bool)
  | 0, _, _, _, _, _, _, _, _, _, _, _, _ => none
  | k + 1, x0, x3, x5, x7, x212000, x212001, x212002, x212003, x212004, x213000, x213001, x213002 => (gimbalref0_CopyVecs.f k x212000).bind fun t220 => ((median_Take.f k t220 x212001 x212002 x212003 x212004).bind fun bt223 => ((gimballaw13_num.f bt223.2.2.2.2).bind fun t231 => (if t231 = x5 then (if (!(bt223.2.1 == x213000) || (!(bt223.2.2.1 == x213001) || (!(bt223.2.2.2.1 == x213002)))) = true then (gimballaw13_MedianExact.j3 k x0 x3 t220 bt223.1 true x212000 x212001 x212002 x212003 x212004) else ((gimbalref0_EqVecs.f k bt223.1 x7).bind fun t232 => (if t232 = true then ((gimbalref0_EqVecs.f k t220 x212000).bind fun t233 => (gimballaw13_MedianExact.j3 k x0 x3 t220 bt223.1 (!t233) x212000 x212001 x212002 x212003 x212004)) else (gimballaw13_MedianExact.j3 k x0 x3 t220 bt223.1 true x212000 x212001 x212002 x212003 x212004)))) else (gimballaw13_MedianExact.j3 k x0 x3 t220 bt223.1 true x212000 x212001 x212002 x212003 x212004))))
def gimballaw13_MedianExact.j3 : Nat → List (S27) → Int → List (S25) → List (S25) → Bool → List (S25) → Int → Int → Int → Int → Option (Bool)
  | 0, _, _, _, _, _, _, _, _, _, _ => none
  | k + 1, x0, x3, x8, x9, x76, x212000, x212001, x212002, x212003, x212004 => if x76 = true then (some false) else ((gimballaw0_Vecs.f k x9).bind fun _ => ((gimbalref0_EqVecs.f k x8 x212000).bind fun t234 => (if t234 = true then (gimballaw13_MedianExact.l0 k x0 (wrap64 (x3 + 1))) else (some false))))
end
def gimballaw13_MedianExact.f (k : Nat) (l0 : List (S27)) : Option (Bool) := gimballaw13_MedianExact.l0 k l0 0
theorem gimballaw13_MedianExact.mono_l : ∀ k, (∀ y0 y1, LeO (gimballaw13_MedianExact.l0 k y0 y1) (gimballaw13_MedianExact.l0 (k + 1) y0 y1)) ∧ (∀ y0 y1 y2, LeO (gimballaw13_MedianExact.j1 k y0 y1 y2) (gimballaw13_MedianExact.j1 (k + 1) y0 y1 y2)) ∧ (∀ y0 y1 y2 y3 y4 y5 y6 y7 y8 y9 y10 y11, LeO (gimballaw13_MedianExact.j2 k y0 y1 y2 y3 y4 y5 y6 y7 y8 y9 y10 y11) (gimballaw13_MedianExact.j2 (k + 1) y0 y1 y2 y3 y4 y5 y6 y7 y8 y9 y10 y11)) ∧ (∀ y0 y1 y2 y3 y4 y5 y6 y7 y8 y9, LeO (gimballaw13_MedianExact.j3 k y0 y1 y2 y3 y4 y5 y6 y7 y8 y9) (gimballaw13_MedianExact.j3 (k + 1) y0 y1 y2 y3 y4 y5 y6 y7 y8 y9))
  | 0 => ⟨fun _ _ r h => by simp [gimballaw13_MedianExact.l0] at h, fun _ _ _ r h => by simp [gimballaw13_MedianExact.j1] at h, fun _ _ _ _ _ _ _ _ _ _ _ _ r h => by simp [gimballaw13_MedianExact.j2] at h, fun _ _ _ _ _ _ _ _ _ _ r h => by simp [gimballaw13_MedianExact.j3] at h⟩
  | k + 1 => by
    obtain ⟨ih0, ih1, ih2, ih3⟩ := gimballaw13_MedianExact.mono_l k
    refine ⟨?_, ?_, ?_, ?_⟩
    · intro y0 y1
      unfold gimballaw13_MedianExact.l0
      repeat' first
      | (with_reducible exact ih0 _ _)
      | (with_reducible exact ih1 _ _ _)
      | (with_reducible exact ih2 _ _ _ _ _ _ _ _ _ _ _ _)
      | (with_reducible exact ih3 _ _ _ _ _ _ _ _ _ _)
      | (with_reducible exact gimballaw0_Vecs.mono _ _)
      | (with_reducible exact gimballaw13_may.mono _ _ _ _ _ _)
      | (with_reducible exact gimballaw13_wakes.mono _)
      | (with_reducible exact gimbalref0_CopyVecs.mono _ _)
      | (with_reducible exact gimbalref0_EqVecs.mono _ _ _)
      | (with_reducible exact gimbalref10_Median.mono _ _ _ _ _ _)
      | (with_reducible exact median_Take.mono _ _ _ _ _ _)
      | (with_reducible exact LeO.refl _)
      | (with_reducible exact LeO.none _)
      | (with_reducible refine LeO.ite ?_ ?_)
      | (with_reducible refine LeO.bind ?_ (fun _ => ?_))
      | exact ih0 _ _
      | exact ih1 _ _ _
      | exact ih2 _ _ _ _ _ _ _ _ _ _ _ _
      | exact ih3 _ _ _ _ _ _ _ _ _ _
      | exact gimballaw0_Vecs.mono _ _
      | exact gimballaw13_may.mono _ _ _ _ _ _
      | exact gimballaw13_wakes.mono _
      | exact gimbalref0_CopyVecs.mono _ _
      | exact gimbalref0_EqVecs.mono _ _ _
      | exact gimbalref10_Median.mono _ _ _ _ _ _
      | exact median_Take.mono _ _ _ _ _ _
      | exact LeO.none _
      | refine LeO.ite ?_ ?_
      | refine LeO.bind ?_ (fun _ => ?_)
    · intro y0 y1 y2
      unfold gimballaw13_MedianExact.j1
      repeat' first
      | (with_reducible exact ih0 _ _)
      | (with_reducible exact ih1 _ _ _)
      | (with_reducible exact ih2 _ _ _ _ _ _ _ _ _ _ _ _)
      | (with_reducible exact ih3 _ _ _ _ _ _ _ _ _ _)
      | (with_reducible exact gimballaw0_Vecs.mono _ _)
      | (with_reducible exact gimballaw13_may.mono _ _ _ _ _ _)
      | (with_reducible exact gimballaw13_wakes.mono _)
      | (with_reducible exact gimbalref0_CopyVecs.mono _ _)
      | (with_reducible exact gimbalref0_EqVecs.mono _ _ _)
      | (with_reducible exact gimbalref10_Median.mono _ _ _ _ _ _)
      | (with_reducible exact median_Take.mono _ _ _ _ _ _)
      | (with_reducible exact LeO.refl _)
      | (with_reducible exact LeO.none _)
      | (with_reducible refine LeO.ite ?_ ?_)
      | (with_reducible refine LeO.bind ?_ (fun _ => ?_))
      | exact ih0 _ _
      | exact ih1 _ _ _
      | exact ih2 _ _ _ _ _ _ _ _ _ _ _ _
      | exact ih3 _ _ _ _ _ _ _ _ _ _
      | exact gimballaw0_Vecs.mono _ _
      | exact gimballaw13_may.mono _ _ _ _ _ _
      | exact gimballaw13_wakes.mono _
      | exact gimbalref0_CopyVecs.mono _ _
      | exact gimbalref0_EqVecs.mono _ _ _
      | exact gimbalref10_Median.mono _ _ _ _ _ _
      | exact median_Take.mono _ _ _ _ _ _
      | exact LeO.none _
      | refine LeO.ite ?_ ?_
      | refine LeO.bind ?_ (fun _ => ?_)
    · intro y0 y1 y2 y3 y4 y5 y6 y7 y8 y9 y10 y11
      unfold gimballaw13_MedianExact.j2
      repeat' first
      | (with_reducible exact ih0 _ _)
      | (with_reducible exact ih1 _ _ _)
      | (with_reducible exact ih2 _ _ _ _ _ _ _ _ _ _ _ _)
      | (with_reducible exact ih3 _ _ _ _ _ _ _ _ _ _)
      | (with_reducible exact gimballaw0_Vecs.mono _ _)
      | (with_reducible exact gimballaw13_may.mono _ _ _ _ _ _)
      | (with_reducible exact gimballaw13_wakes.mono _)
      | (with_reducible exact gimbalref0_CopyVecs.mono _ _)
      | (with_reducible exact gimbalref0_EqVecs.mono _ _ _)
      | (with_reducible exact gimbalref10_Median.mono _ _ _ _ _ _)
      | (with_reducible exact median_Take.mono _ _ _ _ _ _)
      | (with_reducible exact LeO.refl _)
      | (with_reducible exact LeO.none _)
      | (with_reducible refine LeO.ite ?_ ?_)
      | (with_reducible refine LeO.bind ?_ (fun _ => ?_))
      | exact ih0 _ _
      | exact ih1 _ _ _
      | exact ih2 _ _ _ _ _ _ _ _ _ _ _ _
      | exact ih3 _ _ _ _ _ _ _ _ _ _
      | exact gimballaw0_Vecs.mono _ _
      | exact gimballaw13_may.mono _ _ _ _ _ _
      | exact gimballaw13_wakes.mono _
      | exact gimbalref0_CopyVecs.mono _ _
      | exact gimbalref0_EqVecs.mono _ _ _
      | exact gimbalref10_Median.mono _ _ _ _ _ _
      | exact median_Take.mono _ _ _ _ _ _
      | exact LeO.none _
      | refine LeO.ite ?_ ?_
      | refine LeO.bind ?_ (fun _ => ?_)
    · intro y0 y1 y2 y3 y4 y5 y6 y7 y8 y9
      unfold gimballaw13_MedianExact.j3
      repeat' first
      | (with_reducible exact ih0 _ _)
      | (with_reducible exact ih1 _ _ _)
      | (with_reducible exact ih2 _ _ _ _ _ _ _ _ _ _ _ _)
      | (with_reducible exact ih3 _ _ _ _ _ _ _ _ _ _)
      | (with_reducible exact gimballaw0_Vecs.mono _ _)
      | (with_reducible exact gimballaw13_may.mono _ _ _ _ _ _)
      | (with_reducible exact gimballaw13_wakes.mono _)
      | (with_reducible exact gimbalref0_CopyVecs.mono _ _)
      | (with_reducible exact gimbalref0_EqVecs.mono _ _ _)
      | (with_reducible exact gimbalref10_Median.mono _ _ _ _ _ _)
      | (with_reducible exact median_Take.mono _ _ _ _ _ _)
      | (with_reducible exact LeO.refl _)
      | (with_reducible exact LeO.none _)
      | (with_reducible refine LeO.ite ?_ ?_)
      | (with_reducible refine LeO.bind ?_ (fun _ => ?_))
      | exact ih0 _ _
      | exact ih1 _ _ _
      | exact ih2 _ _ _ _ _ _ _ _ _ _ _ _
      | exact ih3 _ _ _ _ _ _ _ _ _ _
      | exact gimballaw0_Vecs.mono _ _
      | exact gimballaw13_may.mono _ _ _ _ _ _
      | exact gimballaw13_wakes.mono _
      | exact gimbalref0_CopyVecs.mono _ _
      | exact gimbalref0_EqVecs.mono _ _ _
      | exact gimbalref10_Median.mono _ _ _ _ _ _
      | exact median_Take.mono _ _ _ _ _ _
      | exact LeO.none _
      | refine LeO.ite ?_ ?_
      | refine LeO.bind ?_ (fun _ => ?_)
theorem gimballaw13_MedianExact.mono : ∀ a0 k, LeO (gimballaw13_MedianExact.f k a0) (gimballaw13_MedianExact.f (k + 1) a0) := by
  intro a0 k
  obtain ⟨ih0, ih1, ih2, ih3⟩ := gimballaw13_MedianExact.mono_l k
  unfold gimballaw13_MedianExact.f
  repeat' first
      | (with_reducible exact ih0 _ _)
      | (with_reducible exact ih1 _ _ _)
      | (with_reducible exact ih2 _ _ _ _ _ _ _ _ _ _ _ _)
      | (with_reducible exact ih3 _ _ _ _ _ _ _ _ _ _)
      | (with_reducible exact gimballaw0_Vecs.mono _ _)
      | (with_reducible exact gimballaw13_may.mono _ _ _ _ _ _)
      | (with_reducible exact gimballaw13_wakes.mono _)
      | (with_reducible exact gimbalref0_CopyVecs.mono _ _)
      | (with_reducible exact gimbalref0_EqVecs.mono _ _ _)
      | (with_reducible exact gimbalref10_Median.mono _ _ _ _ _ _)
      | (with_reducible exact median_Take.mono _ _ _ _ _ _)
      | (with_reducible exact LeO.refl _)
      | (with_reducible exact LeO.none _)
      | (with_reducible refine LeO.ite ?_ ?_)
      | (with_reducible refine LeO.bind ?_ (fun _ => ?_))
      | exact ih0 _ _
      | exact ih1 _ _ _
      | exact ih2 _ _ _ _ _ _ _ _ _ _ _ _
      | exact ih3 _ _ _ _ _ _ _ _ _ _
      | exact gimballaw0_Vecs.mono _ _
      | exact gimballaw13_may.mono _ _ _ _ _ _
      | exact gimballaw13_wakes.mono _
      | exact gimbalref0_CopyVecs.mono _ _
      | exact gimbalref0_EqVecs.mono _ _ _
      | exact gimbalref10_Median.mono _ _ _ _ _ _
      | exact median_Take.mono _ _ _ _ _ _
      | exact LeO.none _
      | refine LeO.ite ?_ ?_
      | refine LeO.bind ?_ (fun _ => ?_)
set_option maxHeartbeats 8000000 in
set_option maxRecDepth 100000 in
theorem gimballaw13_MedianExact.calls (k : Nat) (A0 : Option Addr) (c0 : Nat) (l0 : List (S27)) (r : Bool) (w : World) (hr0 : Kd.C k27 w A0 l0.length l0) (hc0 : l0.length ≤ c0) (h : gimballaw13_MedianExact.f k l0 = some r) (hrt_ : Aside0 (r = true)) :
    Calls Try.prog 3 #[.slice A0 l0.length c0] w fun e w' => e = .returned (.bool r) ∧ Below w.heap.size w w' := by
  have hu27 := Try.underlying27
  have hu25 := Try.underlying25
  have HR0 := Aside0.mk hr0
  have HC0 := Aside0.mk hc0
  clear hr0 hc0
  have HB := Aside0.mk (Below.refl w.heap.size w)
  have H : (gimballaw13_MedianExact.l0 k l0 0) = some r := h
  clear h
  have H' := Aside0.mk H
  clear H
  go_enter Try.func3, Try.ntmps3
  go_wp2
  go_loopg [3] k (fun kq v3 w' => ∃ (x3_1 : Int), v3 = .int .i64 x3_1 ∧ Aside0 (gimballaw13_MedianExact.l0 kq l0 x3_1 = some r) ∧ Aside0 (kq ≤ k) ∧ Aside0 (Below w.heap.size w w'))
  case atStart => exact ⟨(0), (by first | rfl | (simp; done) | (simp [*]; done)), H', ⟨Nat.le_refl _⟩, ⟨by repeat (first | (with_reducible first | exact HB.out | apply below_alloc | apply pw_below_drewN | apply below_drew1) | exact HB.out)⟩⟩
  case round =>
    clear H'
    obtain ⟨x3_1, rfl, HA, HK1, HB⟩ := hrel
    cases gk with
    | zero => exact absurd HA.out (by simp [gimballaw13_MedianExact.l0])
    | succ k1 =>
      have H := HA.out
      clear HA
      simp only [gimballaw13_MedianExact.l0] at H
      have HC2 := Aside0.mk H
      clear H
      go_upto_region 2 with (fail)
      go_cut [19] (fun v19 wc => ∃ (kq : Nat) (x19_1 : Bool), v19 = .bool x19_1 ∧ Aside0 (gimballaw13_MedianExact.j1 kq l0 x3_1 x19_1 = some r) ∧ Aside0 (kq ≤ k1) ∧ Aside0 (Below w.heap.size w wc))
      case first =>
        have H := HC2.out
        clear HC2
        by_cases c3 : x3_1 < (l0.length : Int)
        · rw [if_pos c3] at H
          have c3b0 : decide (x3_1 < (l0.length : Int)) = true := decide_eq_true c3
          clear c3
          (first | rw [c3b0] | (simp only [i64_w, i32_w]; rw [c3b0]) | skip)
          have H' := Aside0.mk H
          clear H
          go_wp2
          go_meet
          case rel => exact ⟨_, (decide (x3_1 < 20)), (by first | rfl | (simp; done) | (simp [*]; done)), H', ⟨by have := HK1.out; first | omega | exact Nat.le_refl _⟩, ⟨by repeat (first | (with_reducible first | exact HB.out | apply below_alloc | apply pw_below_drewN | apply below_drew1) | exact HB.out)⟩⟩
        · rw [if_neg c3] at H
          have c3b0 : decide (x3_1 < (l0.length : Int)) = false := decide_eq_false c3
          clear c3
          (first | rw [c3b0] | (simp only [i64_w, i32_w]; rw [c3b0]) | skip)
          have H' := Aside0.mk H
          clear H
          go_wp2
          go_meet
          case rel => exact ⟨_, (false), (by first | rfl | (simp; done) | (simp [*]; done)), H', ⟨by have := HK1.out; first | omega | exact Nat.le_refl _⟩, ⟨by repeat (first | (with_reducible first | exact HB.out | apply below_alloc | apply pw_below_drewN | apply below_drew1) | exact HB.out)⟩⟩
      case rest =>
        clear HC2
        try clear p2
        try clear c3
        try clear c3b0
        obtain ⟨kq, x19_1, rfl, HA, HJ1, HB⟩ := hcut
        cases kq with
        | zero => exact absurd HA.out (by simp [gimballaw13_MedianExact.j1])
        | succ kj1 =>
          have H := HA.out
          clear HA
          simp only [gimballaw13_MedianExact.j1] at H
          by_cases c4 : x19_1 = true
          · subst c4
            have H1 : (if 0 ≤ x3_1 then (if x3_1 < (l0.length : Int) then (if (((rd_T27 l0 x3_1).f0).length : Int) > 50 then (some true) else ((gimballaw13_may.f kj1 ((rd_T27 l0 x3_1).f0) ((rd_T27 l0 x3_1).f1) ((rd_T27 l0 x3_1).f2.f0) ((rd_T27 l0 x3_1).f2.f1) ((rd_T27 l0 x3_1).f2.f2)).bind fun t213 => (if t213 = true then ((gimbalref10_Median.f kj1 ((rd_T27 l0 x3_1).f0) ((rd_T27 l0 x3_1).f1) ((rd_T27 l0 x3_1).f2.f0) ((rd_T27 l0 x3_1).f2.f1) ((rd_T27 l0 x3_1).f2.f2)).bind fun bt214 => (gimballaw13_MedianExact.j2 kj1 l0 x3_1 0 bt214.1 ((rd_T27 l0 x3_1).f0) ((rd_T27 l0 x3_1).f1) ((rd_T27 l0 x3_1).f2.f0) ((rd_T27 l0 x3_1).f2.f1) ((rd_T27 l0 x3_1).f2.f2) bt214.2.1 bt214.2.2.1 bt214.2.2.2)) else (gimballaw13_MedianExact.j2 kj1 l0 x3_1 1 ([] : List (S25)) ((rd_T27 l0 x3_1).f0) ((rd_T27 l0 x3_1).f1) ((rd_T27 l0 x3_1).f2.f0) ((rd_T27 l0 x3_1).f2.f1) ((rd_T27 l0 x3_1).f2.f2) 0 0 0)))) else (none)) else (none)) = some r := by rw [if_pos rfl] at H; exact H
            clear H
            have H := H1
            clear H1
            by_cases c5 : 0 ≤ x3_1
            · rw [if_pos c5] at H
              have c5b0 : decide (0 ≤ x3_1) = true := decide_eq_true c5
              clear c5
              by_cases c6 : x3_1 < (l0.length : Int)
              · rw [if_pos c6] at H
                have c6b0 : decide (x3_1 < (l0.length : Int)) = true := decide_eq_true c6
                clear c6
                by_cases c7 : (((rd_T27 l0 x3_1).f0).length : Int) > 50
                · rw [if_pos c7] at H
                  have c7b0 : decide (50 < (((rd_T27 l0 x3_1).f0).length : Int)) = true := decide_eq_true c7
                  have c7b1 : decide (50 < ((rd_T27 l0 x3_1).f0).length) = true := decide_eq_true (by omega)
                  clear c7
                  obtain rfl := Option.some.inj H
                  have p210 : 0 ≤ (x3_1 : Int) := of_decide_eq_true (by first | (with_reducible assumption) | assumption)
                  have q210 : x3_1 < (l0.length : Int) := of_decide_eq_true (by first | (with_reducible assumption) | assumption)
                  obtain ⟨ad210, A210_0, c210_0, e210, hx210_0, hx210_1, hx210_2, hx210_3, hx210_4, hl210_0, hi210_0⟩ := at_T27 HR0.out x3_1 p210 q210
                  cases e210
                  replace hx210_0 := (HB.out.cell (World.block_lt_of_cell? w _ hx210_0)).trans hx210_0
                  replace hx210_1 := (HB.out.cell (World.block_lt_of_cell? w _ hx210_1)).trans hx210_1
                  replace hx210_2 := (HB.out.cell (World.block_lt_of_cell? w _ hx210_2)).trans hx210_2
                  replace hx210_3 := (HB.out.cell (World.block_lt_of_cell? w _ hx210_3)).trans hx210_3
                  replace hx210_4 := (HB.out.cell (World.block_lt_of_cell? w _ hx210_4)).trans hx210_4
                  have HR210_0 := Aside0.mk hi210_0
                  have HC210_0 := Aside0.mk hl210_0
                  clear hi210_0 hl210_0
                  replace p210 := eq_true p210
                  replace q210 := eq_true q210
                  go_wp2_with (first | ((with_reducible refine gate_dst (N := 4) rfl ?_); refine box_event ?hg (N := 4) ?hd (cs := #[.slice none 0 0, .int .i64 0, .int .i64 0, .int .i64 0, .int .i64 0]) (t := 27) ?hr ?_; (case hd => rfl); (case hg => rfl); (case hr => first | (go_simp; done) | (go_simp; rfl)); intro gb211 hg w8 hbox hb; have n0_ := Aside0.mk (below_step (by repeat (first | (with_reducible first | exact HB.out | apply below_alloc | apply pw_below_drewN | apply below_drew1) | exact HB.out)) hb); have n1_ := Aside0.mk (hbox); have n2_ := Aside0.mk ((by rw [hg]; exact (below_size (by repeat (first | (with_reducible first | exact HB.out | apply below_alloc | apply pw_below_drewN | apply below_drew1) | exact HB.out))) : w.heap.size ≤ gb211)); have n3_ := Aside0.mk ((by rw [hg]; exact (below_size (by repeat (first | (with_reducible first | exact HB.out | apply below_alloc | apply pw_below_drewN | apply below_drew1) | exact HB.out))) : w.heap.size ≤ gb211)); clear HB; have HB := n0_; have BK211 := n1_; have GW211 := n2_; have GE211 := n3_; clear n0_ n1_ n2_ n3_; clear hb hbox hg; have hcz9_0 : w8.cell? ⟨gb211, 0, none⟩ = some (.slice none 0 0) := (blk_cell BK211.out 0).trans rfl; have hcz9_1 : w8.cell? ⟨gb211, 1, none⟩ = some (.int .i64 0) := (blk_cell BK211.out 1).trans rfl; have hcz9_2 : w8.cell? ⟨gb211, 2, none⟩ = some (.int .i64 0) := (blk_cell BK211.out 2).trans rfl; have hcz9_3 : w8.cell? ⟨gb211, 3, none⟩ = some (.int .i64 0) := (blk_cell BK211.out 3).trans rfl; have hcz9_4 : w8.cell? ⟨gb211, 4, none⟩ = some (.int .i64 0) := (blk_cell BK211.out 4).trans rfl; have hfz9_0 := blk_frozen BK211.out 0; have hfz9_1 := blk_frozen BK211.out 1; have hfz9_2 := blk_frozen BK211.out 2; have hfz9_3 := blk_frozen BK211.out 3; have hfz9_4 := blk_frozen BK211.out 4))
                  go_ret
                  exact ⟨by first | rfl | (simp [errW_none, errW_some] <;> rfl) | (simp [*, errW_none, errW_some] <;> rfl), by repeat (first | (with_reducible first | exact HB.out | apply below_alloc | apply pw_below_drewN | apply below_drew1 | refine below_set ?_ GE211.out) | exact HB.out)⟩
                · rw [if_neg c7] at H
                  have c7b0 : decide (50 < (((rd_T27 l0 x3_1).f0).length : Int)) = false := decide_eq_false c7
                  have c7b1 : decide (50 < ((rd_T27 l0 x3_1).f0).length) = false := decide_eq_false (by omega)
                  clear c7
                  replace H := Option.bind_eq_some_iff.mp H
                  obtain ⟨t213, A100, H⟩ := H
                  replace H : (if t213 = true then ((gimbalref10_Median.f kj1 ((rd_T27 l0 x3_1).f0) ((rd_T27 l0 x3_1).f1) ((rd_T27 l0 x3_1).f2.f0) ((rd_T27 l0 x3_1).f2.f1) ((rd_T27 l0 x3_1).f2.f2)).bind fun bt214 => (gimballaw13_MedianExact.j2 kj1 l0 x3_1 0 bt214.1 ((rd_T27 l0 x3_1).f0) ((rd_T27 l0 x3_1).f1) ((rd_T27 l0 x3_1).f2.f0) ((rd_T27 l0 x3_1).f2.f1) ((rd_T27 l0 x3_1).f2.f2) bt214.2.1 bt214.2.2.1 bt214.2.2.2)) else (gimballaw13_MedianExact.j2 kj1 l0 x3_1 1 ([] : List (S25)) ((rd_T27 l0 x3_1).f0) ((rd_T27 l0 x3_1).f1) ((rd_T27 l0 x3_1).f2.f0) ((rd_T27 l0 x3_1).f2.f1) ((rd_T27 l0 x3_1).f2.f2) 0 0 0)) = some r := H
                  have A10 := Aside0.mk A100
                  clear A100
                  have HC11 := Aside0.mk H
                  clear H
                  have p210 : 0 ≤ (x3_1 : Int) := of_decide_eq_true (by first | (with_reducible assumption) | assumption)
                  have q210 : x3_1 < (l0.length : Int) := of_decide_eq_true (by first | (with_reducible assumption) | assumption)
                  obtain ⟨ad210, A210_0, c210_0, e210, hx210_0, hx210_1, hx210_2, hx210_3, hx210_4, hl210_0, hi210_0⟩ := at_T27 HR0.out x3_1 p210 q210
                  cases e210
                  replace hx210_0 := (HB.out.cell (World.block_lt_of_cell? w _ hx210_0)).trans hx210_0
                  replace hx210_1 := (HB.out.cell (World.block_lt_of_cell? w _ hx210_1)).trans hx210_1
                  replace hx210_2 := (HB.out.cell (World.block_lt_of_cell? w _ hx210_2)).trans hx210_2
                  replace hx210_3 := (HB.out.cell (World.block_lt_of_cell? w _ hx210_3)).trans hx210_3
                  replace hx210_4 := (HB.out.cell (World.block_lt_of_cell? w _ hx210_4)).trans hx210_4
                  have HR210_0 := Aside0.mk hi210_0
                  have HC210_0 := Aside0.mk hl210_0
                  clear hi210_0 hl210_0
                  replace p210 := eq_true p210
                  replace q210 := eq_true q210
                  go_upto_if 31 with (first | ((with_reducible refine gate_dst (N := 4) rfl ?_); refine box_event ?hg (N := 4) ?hd (cs := #[.slice none 0 0, .int .i64 0, .int .i64 0, .int .i64 0, .int .i64 0]) (t := 27) ?hr ?_; (case hd => rfl); (case hg => rfl); (case hr => first | (go_simp; done) | (go_simp; rfl)); intro gb211 hg w12 hbox hb; have n0_ := Aside0.mk (below_step (by repeat (first | (with_reducible first | exact HB.out | apply below_alloc | apply pw_below_drewN | apply below_drew1) | exact HB.out)) hb); have n1_ := Aside0.mk (hbox); have n2_ := Aside0.mk ((by rw [hg]; exact (below_size (by repeat (first | (with_reducible first | exact HB.out | apply below_alloc | apply pw_below_drewN | apply below_drew1) | exact HB.out))) : w.heap.size ≤ gb211)); have n3_ := Aside0.mk ((by rw [hg]; exact (below_size (by repeat (first | (with_reducible first | exact HB.out | apply below_alloc | apply pw_below_drewN | apply below_drew1) | exact HB.out))) : w.heap.size ≤ gb211)); clear HB; have HB := n0_; have BK211 := n1_; have GW211 := n2_; have GE211 := n3_; clear n0_ n1_ n2_ n3_; clear hb hbox hg; have hcz13_0 : w12.cell? ⟨gb211, 0, none⟩ = some (.slice none 0 0) := (blk_cell BK211.out 0).trans rfl; have hcz13_1 : w12.cell? ⟨gb211, 1, none⟩ = some (.int .i64 0) := (blk_cell BK211.out 1).trans rfl; have hcz13_2 : w12.cell? ⟨gb211, 2, none⟩ = some (.int .i64 0) := (blk_cell BK211.out 2).trans rfl; have hcz13_3 : w12.cell? ⟨gb211, 3, none⟩ = some (.int .i64 0) := (blk_cell BK211.out 3).trans rfl; have hcz13_4 : w12.cell? ⟨gb211, 4, none⟩ = some (.int .i64 0) := (blk_cell BK211.out 4).trans rfl; have hfz13_0 := blk_frozen BK211.out 0; have hfz13_1 := blk_frozen BK211.out 1; have hfz13_2 := blk_frozen BK211.out 2; have hfz13_3 := blk_frozen BK211.out 3; have hfz13_4 := blk_frozen BK211.out 4) | ((with_reducible refine gate_dst (N := 6) rfl ?_); refine box_event ?hg (N := 6) ?hd (cs := #[.int .i64 0, .int .i64 0, .int .i64 0]) (t := 25) ?hr ?_; (case hd => rfl); (case hg => rfl); (case hr => first | (go_simp; done) | (go_simp; rfl)); intro gb212 hg w14 hbox hb; have n0_ := Aside0.mk (blk_below (g := gb211) (o := .cells #[.slice A210_0 ((rd_T27 l0 x3_1).f0).length c210_0, .int .i64 ((rd_T27 l0 x3_1).f1), .int .i64 ((rd_T27 l0 x3_1).f2.f0), .int .i64 ((rd_T27 l0 x3_1).f2.f1), .int .i64 ((rd_T27 l0 x3_1).f2.f2)] 27 (0, 0)) (by (with_reducible repeat (first | refine blk_drewN ?_ _ | refine blk_drew ?_ | refine blk_alloc ?_ _)); refine blk_put (cs := #[.slice A210_0 ((rd_T27 l0 x3_1).f0).length c210_0, .int .i64 ((rd_T27 l0 x3_1).f1), .int .i64 ((rd_T27 l0 x3_1).f2.f0), .int .i64 ((rd_T27 l0 x3_1).f2.f1), .int .i64 0]) ?_ 4 _ rfl; (with_reducible repeat (first | refine blk_drewN ?_ _ | refine blk_drew ?_ | refine blk_alloc ?_ _)); refine blk_put (cs := #[.slice A210_0 ((rd_T27 l0 x3_1).f0).length c210_0, .int .i64 ((rd_T27 l0 x3_1).f1), .int .i64 ((rd_T27 l0 x3_1).f2.f0), .int .i64 0, .int .i64 0]) ?_ 3 _ rfl; (with_reducible repeat (first | refine blk_drewN ?_ _ | refine blk_drew ?_ | refine blk_alloc ?_ _)); refine blk_put (cs := #[.slice A210_0 ((rd_T27 l0 x3_1).f0).length c210_0, .int .i64 ((rd_T27 l0 x3_1).f1), .int .i64 0, .int .i64 0, .int .i64 0]) ?_ 2 _ rfl; (with_reducible repeat (first | refine blk_drewN ?_ _ | refine blk_drew ?_ | refine blk_alloc ?_ _)); refine blk_put (cs := #[.slice A210_0 ((rd_T27 l0 x3_1).f0).length c210_0, .int .i64 0, .int .i64 0, .int .i64 0, .int .i64 0]) ?_ 1 _ rfl; (with_reducible repeat (first | refine blk_drewN ?_ _ | refine blk_drew ?_ | refine blk_alloc ?_ _)); refine blk_put (cs := #[.slice none 0 0, .int .i64 0, .int .i64 0, .int .i64 0, .int .i64 0]) ?_ 0 _ rfl; (with_reducible repeat (first | refine blk_drewN ?_ _ | refine blk_drew ?_ | refine blk_alloc ?_ _)); exact BK211.out) hb); have n1_ := Aside0.mk (below_step (by repeat (first | (with_reducible first | exact HB.out | apply below_alloc | apply pw_below_drewN | apply below_drew1 | refine below_set ?_ GE211.out) | exact HB.out)) hb); have n2_ := Aside0.mk (hbox); have n3_ := Aside0.mk ((by rw [hg]; exact (below_size (by repeat (first | (with_reducible first | exact HB.out | apply below_alloc | apply pw_below_drewN | apply below_drew1 | refine below_set ?_ GE211.out) | exact HB.out))) : w.heap.size ≤ gb212)); have n4_ := Aside0.mk ((by rw [hg]; exact (below_size (by repeat (first | (with_reducible first | exact HB.out | apply below_alloc | apply pw_below_drewN | apply below_drew1 | refine below_set ?_ GE211.out) | exact HB.out))) : w.heap.size ≤ gb212)); have n5_ := Aside0.mk ((by rw [hg]; exact Nat.ne_of_lt (blk_lt (g := gb211) (o := .cells #[.slice A210_0 ((rd_T27 l0 x3_1).f0).length c210_0, .int .i64 ((rd_T27 l0 x3_1).f1), .int .i64 ((rd_T27 l0 x3_1).f2.f0), .int .i64 ((rd_T27 l0 x3_1).f2.f1), .int .i64 ((rd_T27 l0 x3_1).f2.f2)] 27 (0, 0)) (by (with_reducible repeat (first | refine blk_drewN ?_ _ | refine blk_drew ?_ | refine blk_alloc ?_ _)); refine blk_put (cs := #[.slice A210_0 ((rd_T27 l0 x3_1).f0).length c210_0, .int .i64 ((rd_T27 l0 x3_1).f1), .int .i64 ((rd_T27 l0 x3_1).f2.f0), .int .i64 ((rd_T27 l0 x3_1).f2.f1), .int .i64 0]) ?_ 4 _ rfl; (with_reducible repeat (first | refine blk_drewN ?_ _ | refine blk_drew ?_ | refine blk_alloc ?_ _)); refine blk_put (cs := #[.slice A210_0 ((rd_T27 l0 x3_1).f0).length c210_0, .int .i64 ((rd_T27 l0 x3_1).f1), .int .i64 ((rd_T27 l0 x3_1).f2.f0), .int .i64 0, .int .i64 0]) ?_ 3 _ rfl; (with_reducible repeat (first | refine blk_drewN ?_ _ | refine blk_drew ?_ | refine blk_alloc ?_ _)); refine blk_put (cs := #[.slice A210_0 ((rd_T27 l0 x3_1).f0).length c210_0, .int .i64 ((rd_T27 l0 x3_1).f1), .int .i64 0, .int .i64 0, .int .i64 0]) ?_ 2 _ rfl; (with_reducible repeat (first | refine blk_drewN ?_ _ | refine blk_drew ?_ | refine blk_alloc ?_ _)); refine blk_put (cs := #[.slice A210_0 ((rd_T27 l0 x3_1).f0).length c210_0, .int .i64 0, .int .i64 0, .int .i64 0, .int .i64 0]) ?_ 1 _ rfl; (with_reducible repeat (first | refine blk_drewN ?_ _ | refine blk_drew ?_ | refine blk_alloc ?_ _)); refine blk_put (cs := #[.slice none 0 0, .int .i64 0, .int .i64 0, .int .i64 0, .int .i64 0]) ?_ 0 _ rfl; (with_reducible repeat (first | refine blk_drewN ?_ _ | refine blk_drew ?_ | refine blk_alloc ?_ _)); exact BK211.out)) : gb211 ≠ gb212)); have n6_ := Aside0.mk ((by rw [hg]; exact Nat.ne_of_gt (blk_lt (g := gb211) (o := .cells #[.slice A210_0 ((rd_T27 l0 x3_1).f0).length c210_0, .int .i64 ((rd_T27 l0 x3_1).f1), .int .i64 ((rd_T27 l0 x3_1).f2.f0), .int .i64 ((rd_T27 l0 x3_1).f2.f1), .int .i64 ((rd_T27 l0 x3_1).f2.f2)] 27 (0, 0)) (by (with_reducible repeat (first | refine blk_drewN ?_ _ | refine blk_drew ?_ | refine blk_alloc ?_ _)); refine blk_put (cs := #[.slice A210_0 ((rd_T27 l0 x3_1).f0).length c210_0, .int .i64 ((rd_T27 l0 x3_1).f1), .int .i64 ((rd_T27 l0 x3_1).f2.f0), .int .i64 ((rd_T27 l0 x3_1).f2.f1), .int .i64 0]) ?_ 4 _ rfl; (with_reducible repeat (first | refine blk_drewN ?_ _ | refine blk_drew ?_ | refine blk_alloc ?_ _)); refine blk_put (cs := #[.slice A210_0 ((rd_T27 l0 x3_1).f0).length c210_0, .int .i64 ((rd_T27 l0 x3_1).f1), .int .i64 ((rd_T27 l0 x3_1).f2.f0), .int .i64 0, .int .i64 0]) ?_ 3 _ rfl; (with_reducible repeat (first | refine blk_drewN ?_ _ | refine blk_drew ?_ | refine blk_alloc ?_ _)); refine blk_put (cs := #[.slice A210_0 ((rd_T27 l0 x3_1).f0).length c210_0, .int .i64 ((rd_T27 l0 x3_1).f1), .int .i64 0, .int .i64 0, .int .i64 0]) ?_ 2 _ rfl; (with_reducible repeat (first | refine blk_drewN ?_ _ | refine blk_drew ?_ | refine blk_alloc ?_ _)); refine blk_put (cs := #[.slice A210_0 ((rd_T27 l0 x3_1).f0).length c210_0, .int .i64 0, .int .i64 0, .int .i64 0, .int .i64 0]) ?_ 1 _ rfl; (with_reducible repeat (first | refine blk_drewN ?_ _ | refine blk_drew ?_ | refine blk_alloc ?_ _)); refine blk_put (cs := #[.slice none 0 0, .int .i64 0, .int .i64 0, .int .i64 0, .int .i64 0]) ?_ 0 _ rfl; (with_reducible repeat (first | refine blk_drewN ?_ _ | refine blk_drew ?_ | refine blk_alloc ?_ _)); exact BK211.out)) : gb212 ≠ gb211)); clear BK211; clear HB; have BK211 := n0_; have HB := n1_; have BK212 := n2_; have GW212 := n3_; have GE212 := n4_; have NB211_212 := n5_; have NB212_211 := n6_; clear n0_ n1_ n2_ n3_ n4_ n5_ n6_; clear hb hbox hg; have hnb15 := NB211_212.out; have hnc15 := NB212_211.out; have hcz16_0 : w14.cell? ⟨gb211, 0, none⟩ = some (.slice A210_0 ((rd_T27 l0 x3_1).f0).length c210_0) := (blk_cell BK211.out 0).trans rfl; have hcz16_1 : w14.cell? ⟨gb211, 1, none⟩ = some (.int .i64 ((rd_T27 l0 x3_1).f1)) := (blk_cell BK211.out 1).trans rfl; have hcz16_2 : w14.cell? ⟨gb211, 2, none⟩ = some (.int .i64 ((rd_T27 l0 x3_1).f2.f0)) := (blk_cell BK211.out 2).trans rfl; have hcz16_3 : w14.cell? ⟨gb211, 3, none⟩ = some (.int .i64 ((rd_T27 l0 x3_1).f2.f1)) := (blk_cell BK211.out 3).trans rfl; have hcz16_4 : w14.cell? ⟨gb211, 4, none⟩ = some (.int .i64 ((rd_T27 l0 x3_1).f2.f2)) := (blk_cell BK211.out 4).trans rfl; have hfz16_0 := blk_frozen BK211.out 0; have hfz16_1 := blk_frozen BK211.out 1; have hfz16_2 := blk_frozen BK211.out 2; have hfz16_3 := blk_frozen BK211.out 3; have hfz16_4 := blk_frozen BK211.out 4) | ((with_reducible refine gate_callee (f := 6) rfl ?_); refine goesL_ (some 31) rfl rfl Try.func6 (by kernel_rfl) rfl #[.agg #[.slice A210_0 ((rd_T27 l0 x3_1).f0).length c210_0, .int .i64 ((rd_T27 l0 x3_1).f1), .int .i64 ((rd_T27 l0 x3_1).f2.f0), .int .i64 ((rd_T27 l0 x3_1).f2.f1), .int .i64 ((rd_T27 l0 x3_1).f2.f2)]] rfl (by (try simp only [List.map_toArray, List.map_cons, List.map_nil]); first | done | rfl | (simp only [List.length_drop, List.length_take]; rfl)) ?_; (with_reducible refine (gimballaw13_may.calls kj1 _ _ ((rd_T27 l0 x3_1).f0) ((rd_T27 l0 x3_1).f1) ((rd_T27 l0 x3_1).f2.f0) ((rd_T27 l0 x3_1).f2.f1) ((rd_T27 l0 x3_1).f2.f2) t213 _ ?side1 ?side2 A10.out).mono ?_); (case side1 => repeat (first | exact (Kd.C_below HR210_0.out HB.out) | (with_reducible refine Kd.C_alloc ?_ _) | (with_reducible refine Kd.C_drewN ?_ _) | (with_reducible refine Kd.C_drew ?_))); (case side2 => exact HC210_0.out); rintro e w17 ⟨rfl, hb⟩; refine ⟨_, rfl, ?_⟩; have n0_ := Aside0.mk (blk_below (g := gb211) (o := .cells #[.slice A210_0 ((rd_T27 l0 x3_1).f0).length c210_0, .int .i64 ((rd_T27 l0 x3_1).f1), .int .i64 ((rd_T27 l0 x3_1).f2.f0), .int .i64 ((rd_T27 l0 x3_1).f2.f1), .int .i64 ((rd_T27 l0 x3_1).f2.f2)] 27 (0, 0)) (by (with_reducible repeat (first | refine blk_drewN ?_ _ | refine blk_drew ?_ | refine blk_alloc ?_ _)); exact BK211.out) hb); have n1_ := Aside0.mk (blk_below (g := gb212) (o := .cells #[.int .i64 0, .int .i64 0, .int .i64 0] 25 (0, 0)) (by (with_reducible repeat (first | refine blk_drewN ?_ _ | refine blk_drew ?_ | refine blk_alloc ?_ _)); exact BK212.out) hb); have n2_ := Aside0.mk (below_step (by repeat (first | (with_reducible first | exact HB.out | apply below_alloc | apply pw_below_drewN | apply below_drew1 | refine below_set ?_ GE211.out | refine below_set ?_ GE212.out) | exact HB.out)) hb); clear BK211; clear BK212; clear HB; have BK211 := n0_; have BK212 := n1_; have HB := n2_; clear n0_ n1_ n2_; (try clear hb); (try clear hb2); (try clear hk); (try clear hi)))
                  (try simp only [Act.put, List.setIfInBounds_toArray, List.set_cons_zero, List.set_cons_succ])
                  go_cut [5, 7] (fun v5 v7 wc => ∃ (kq : Nat) (x5_10 : Int) (x7_10 : List (S25)) (x213000_10 : Int) (x213001_10 : Int) (x213002_10 : Int), v5 = .int .i64 x5_10 ∧ Aside0 (gimballaw13_MedianExact.j2 kq l0 x3_1 x5_10 x7_10 ((rd_T27 l0 x3_1).f0) ((rd_T27 l0 x3_1).f1) ((rd_T27 l0 x3_1).f2.f0) ((rd_T27 l0 x3_1).f2.f1) ((rd_T27 l0 x3_1).f2.f2) x213000_10 x213001_10 x213002_10 = some r) ∧ Aside0 (kq ≤ kj1) ∧ Aside0 (Kd.Q k25 25 wc w.heap.size (fun k_ => k_ ≠ gb212) v7 x7_10) ∧ Aside0 (wc.heap[gb211]? = some (.cells #[(.slice A210_0 ((rd_T27 l0 x3_1).f0).length c210_0), .int .i64 ((rd_T27 l0 x3_1).f1), .int .i64 ((rd_T27 l0 x3_1).f2.f0), .int .i64 ((rd_T27 l0 x3_1).f2.f1), .int .i64 ((rd_T27 l0 x3_1).f2.f2)] 27 (0, 0))) ∧ Aside0 (wc.heap[gb212]? = some (.cells #[.int .i64 x213000_10, .int .i64 x213001_10, .int .i64 x213002_10] 25 (0, 0))) ∧ Aside0 (Below w.heap.size w wc))
                  case first =>
                    have H := HC11.out
                    clear HC11
                    by_cases c18 : t213 = true
                    · subst c18
                      have H1 : ((gimbalref10_Median.f kj1 ((rd_T27 l0 x3_1).f0) ((rd_T27 l0 x3_1).f1) ((rd_T27 l0 x3_1).f2.f0) ((rd_T27 l0 x3_1).f2.f1) ((rd_T27 l0 x3_1).f2.f2)).bind fun bt214 => (gimballaw13_MedianExact.j2 kj1 l0 x3_1 0 bt214.1 ((rd_T27 l0 x3_1).f0) ((rd_T27 l0 x3_1).f1) ((rd_T27 l0 x3_1).f2.f0) ((rd_T27 l0 x3_1).f2.f1) ((rd_T27 l0 x3_1).f2.f2) bt214.2.1 bt214.2.2.1 bt214.2.2.2)) = some r := by rw [if_pos rfl] at H; exact H
                      clear H
                      have H := H1
                      clear H1
                      replace H := Option.bind_eq_some_iff.mp H
                      obtain ⟨⟨t214, t217, t218, t219⟩, A190, H⟩ := H
                      replace H : (gimballaw13_MedianExact.j2 kj1 l0 x3_1 0 t214 ((rd_T27 l0 x3_1).f0) ((rd_T27 l0 x3_1).f1) ((rd_T27 l0 x3_1).f2.f0) ((rd_T27 l0 x3_1).f2.f1) ((rd_T27 l0 x3_1).f2.f2) t217 t218 t219) = some r := H
                      have A19 := Aside0.mk A190
                      clear A190
                      have H' := Aside0.mk H
                      clear H
                      have hnb20 := NB211_212.out
                      have hnc20 := NB212_211.out
                      have hcz21_0 : w17.cell? ⟨gb211, 0, none⟩ = some (.slice A210_0 ((rd_T27 l0 x3_1).f0).length c210_0) := (blk_cell BK211.out 0).trans rfl
                      have hcz21_1 : w17.cell? ⟨gb211, 1, none⟩ = some (.int .i64 ((rd_T27 l0 x3_1).f1)) := (blk_cell BK211.out 1).trans rfl
                      have hcz21_2 : w17.cell? ⟨gb211, 2, none⟩ = some (.int .i64 ((rd_T27 l0 x3_1).f2.f0)) := (blk_cell BK211.out 2).trans rfl
                      have hcz21_3 : w17.cell? ⟨gb211, 3, none⟩ = some (.int .i64 ((rd_T27 l0 x3_1).f2.f1)) := (blk_cell BK211.out 3).trans rfl
                      have hcz21_4 : w17.cell? ⟨gb211, 4, none⟩ = some (.int .i64 ((rd_T27 l0 x3_1).f2.f2)) := (blk_cell BK211.out 4).trans rfl
                      have hfz21_0 := blk_frozen BK211.out 0
                      have hfz21_1 := blk_frozen BK211.out 1
                      have hfz21_2 := blk_frozen BK211.out 2
                      have hfz21_3 := blk_frozen BK211.out 3
                      have hfz21_4 := blk_frozen BK211.out 4
                      go_wp2_with (first | ((with_reducible refine gate_callee (f := 7) rfl ?_); refine goesL_ (some 39) rfl rfl Try.func7 (by kernel_rfl) rfl #[.slice A210_0 ((rd_T27 l0 x3_1).f0).length c210_0, .int .i64 ((rd_T27 l0 x3_1).f1), .agg #[.int .i64 ((rd_T27 l0 x3_1).f2.f0), .int .i64 ((rd_T27 l0 x3_1).f2.f1), .int .i64 ((rd_T27 l0 x3_1).f2.f2)]] rfl (by (try simp only [List.map_toArray, List.map_cons, List.map_nil]); first | done | rfl | (simp only [List.length_drop, List.length_take]; rfl)) ?_; (with_reducible refine (gimbalref10_Median.calls kj1 _ _ ((rd_T27 l0 x3_1).f0) ((rd_T27 l0 x3_1).f1) ((rd_T27 l0 x3_1).f2.f0) ((rd_T27 l0 x3_1).f2.f1) ((rd_T27 l0 x3_1).f2.f2) t214 t217 t218 t219 _ ?side1 ?side2 A19.out).mono ?_); (case side1 => repeat (first | exact (Kd.C_below HR210_0.out HB.out) | (with_reducible refine Kd.C_alloc ?_ _) | (with_reducible refine Kd.C_drewN ?_ _) | (with_reducible refine Kd.C_drew ?_))); (case side2 => exact HC210_0.out); rintro e w22 ⟨v215, rfl, ho0, hb⟩; refine ⟨_, rfl, ?_⟩; have n0_ := Aside0.mk (Kd.Q_lower (Kd.Q_newB ho0 (g := gb212) (o := .cells #[.int .i64 0, .int .i64 0, .int .i64 0] 25 (0, 0)) (by (with_reducible repeat (first | refine blk_drewN ?_ _ | refine blk_drew ?_ | refine blk_alloc ?_ _)); exact BK212.out)) (below_size (by repeat (first | (with_reducible first | exact HB.out | apply below_alloc | apply pw_below_drewN | apply below_drew1 | refine below_set ?_ GE211.out | refine below_set ?_ GE212.out) | exact HB.out)))); have n1_ := Aside0.mk (blk_below (g := gb211) (o := .cells #[.slice A210_0 ((rd_T27 l0 x3_1).f0).length c210_0, .int .i64 ((rd_T27 l0 x3_1).f1), .int .i64 ((rd_T27 l0 x3_1).f2.f0), .int .i64 ((rd_T27 l0 x3_1).f2.f1), .int .i64 ((rd_T27 l0 x3_1).f2.f2)] 27 (0, 0)) (by (with_reducible repeat (first | refine blk_drewN ?_ _ | refine blk_drew ?_ | refine blk_alloc ?_ _)); exact BK211.out) hb); have n2_ := Aside0.mk (blk_below (g := gb212) (o := .cells #[.int .i64 0, .int .i64 0, .int .i64 0] 25 (0, 0)) (by (with_reducible repeat (first | refine blk_drewN ?_ _ | refine blk_drew ?_ | refine blk_alloc ?_ _)); exact BK212.out) hb); have n3_ := Aside0.mk (below_step (by repeat (first | (with_reducible first | exact HB.out | apply below_alloc | apply pw_below_drewN | apply below_drew1 | refine below_set ?_ GE211.out | refine below_set ?_ GE212.out) | exact HB.out)) hb); clear BK211; clear BK212; clear HB; have HO216 := n0_; have BK211 := n1_; have BK212 := n2_; have HB := n3_; clear n0_ n1_ n2_ n3_; (try clear hb); (try clear hb2); (try clear hk); (try clear hi); (try clear ho0); have hcz23_0 : w22.cell? ⟨gb212, 0, none⟩ = some (.int .i64 0) := (blk_cell BK212.out 0).trans rfl; have hcz23_1 : w22.cell? ⟨gb212, 1, none⟩ = some (.int .i64 0) := (blk_cell BK212.out 1).trans rfl; have hcz23_2 : w22.cell? ⟨gb212, 2, none⟩ = some (.int .i64 0) := (blk_cell BK212.out 2).trans rfl; have hfz23_0 := blk_frozen BK212.out 0; have hfz23_1 := blk_frozen BK212.out 1; have hfz23_2 := blk_frozen BK212.out 2))
                      go_meet
                      case rel => exact ⟨_, (0), (t214), (t217), (t218), (t219), (by first | rfl | (simp; done) | (simp [*]; done)), H', ⟨by have := HK1.out; have := HJ1.out; first | omega | exact Nat.le_refl _⟩, ⟨by (with_reducible repeat (first | apply Kd.Q_alloc | apply Kd.Q_drewN | apply Kd.Q_drew)); exact Kd.Q_mono (Kd.Q_far (p := ⟨gb212, 2, none⟩) (Kd.Q_far (p := ⟨gb212, 1, none⟩) (Kd.Q_far (p := ⟨gb212, 0, none⟩) (Kd.Q_mono HO216.out (fun k_ hk => (⟨hk, hk.2⟩ : _ ∧ k_ ≠ gb212))) (fun _ hk => hk.2) (.int .i64 t217)) (fun _ hk => hk.2) (.int .i64 t218)) (fun _ hk => hk.2) (.int .i64 t219)) (fun _ hk => hk.1.2)⟩, ⟨by (with_reducible repeat (first | refine blk_drewN ?_ _ | refine blk_drew ?_ | refine blk_alloc ?_ _)); refine blk_far ?_ NB211_212.out _; (with_reducible repeat (first | refine blk_drewN ?_ _ | refine blk_drew ?_ | refine blk_alloc ?_ _)); refine blk_far ?_ NB211_212.out _; (with_reducible repeat (first | refine blk_drewN ?_ _ | refine blk_drew ?_ | refine blk_alloc ?_ _)); refine blk_far ?_ NB211_212.out _; (with_reducible repeat (first | refine blk_drewN ?_ _ | refine blk_drew ?_ | refine blk_alloc ?_ _)); exact BK211.out⟩, ⟨by (with_reducible repeat (first | refine blk_drewN ?_ _ | refine blk_drew ?_ | refine blk_alloc ?_ _)); refine blk_put (cs := #[.int .i64 t217, .int .i64 t218, .int .i64 0]) ?_ 2 _ rfl; (with_reducible repeat (first | refine blk_drewN ?_ _ | refine blk_drew ?_ | refine blk_alloc ?_ _)); refine blk_put (cs := #[.int .i64 t217, .int .i64 0, .int .i64 0]) ?_ 1 _ rfl; (with_reducible repeat (first | refine blk_drewN ?_ _ | refine blk_drew ?_ | refine blk_alloc ?_ _)); refine blk_put (cs := #[.int .i64 0, .int .i64 0, .int .i64 0]) ?_ 0 _ rfl; (with_reducible repeat (first | refine blk_drewN ?_ _ | refine blk_drew ?_ | refine blk_alloc ?_ _)); exact BK212.out⟩, ⟨by repeat (first | (with_reducible first | exact HB.out | apply below_alloc | apply pw_below_drewN | apply below_drew1 | refine below_set ?_ GE211.out | refine below_set ?_ GE212.out) | exact HB.out)⟩⟩
                    · replace c18 := Bool.eq_false_iff.mpr c18
                      subst c18
                      have H1 : (gimballaw13_MedianExact.j2 kj1 l0 x3_1 1 ([] : List (S25)) ((rd_T27 l0 x3_1).f0) ((rd_T27 l0 x3_1).f1) ((rd_T27 l0 x3_1).f2.f0) ((rd_T27 l0 x3_1).f2.f1) ((rd_T27 l0 x3_1).f2.f2) 0 0 0) = some r := by rw [if_neg (show ¬ (false = true) by decide)] at H; exact H
                      clear H
                      have H := H1
                      clear H1
                      have H' := Aside0.mk H
                      clear H
                      go_wp2
                      go_meet
                      case rel => exact ⟨_, (1), (([] : List (S25))), (0), (0), (0), (by first | rfl | (simp; done) | (simp [*]; done)), H', ⟨by have := HK1.out; have := HJ1.out; first | omega | exact Nat.le_refl _⟩, ⟨Kd.Q_of_R (by first | exact Kd.R_nil _ _ _ _ _ | exact Kd.N_nil _ _ _ _ _ | exact Kd.V_nil _ _ _ _ _ | exact Kd.Q_nil _ _ _ _ _ | exact Kd.S_nil _ _ _ _ _)⟩, ⟨by (with_reducible repeat (first | refine blk_drewN ?_ _ | refine blk_drew ?_ | refine blk_alloc ?_ _)); exact BK211.out⟩, ⟨by (with_reducible repeat (first | refine blk_drewN ?_ _ | refine blk_drew ?_ | refine blk_alloc ?_ _)); exact BK212.out⟩, ⟨by repeat (first | (with_reducible first | exact HB.out | apply below_alloc | apply pw_below_drewN | apply below_drew1 | refine below_set ?_ GE211.out | refine below_set ?_ GE212.out) | exact HB.out)⟩⟩
                  case rest =>
                    clear HC11
                    try clear c1
                    try clear c2
                    try clear p2
                    try clear q2
                    try clear hx2
                    try clear c3
                    try clear c3b0
                    try clear c4
                    try clear c5
                    try clear c5b0
                    try clear c6
                    try clear c6b0
                    try clear c7
                    try clear c7b0
                    try clear c7b1
                    try clear c15
                    try clear c18
                    try clear c20
                    try clear c21
                    try clear p21
                    try clear q21
                    try clear hx21
                    try clear hcz13_0
                    try clear hcz13_1
                    try clear hcz13_2
                    try clear hcz13_3
                    try clear hcz13_4
                    try clear hcz16_0
                    try clear hcz16_1
                    try clear hcz16_2
                    try clear hcz16_3
                    try clear hcz16_4
                    try clear hcz21_0
                    try clear hcz21_1
                    try clear hcz21_2
                    try clear hcz21_3
                    try clear hcz21_4
                    try clear hcz23_0
                    try clear hcz23_1
                    try clear hcz23_2
                    try clear hcz9_0
                    try clear hcz9_1
                    try clear hcz9_2
                    try clear hcz9_3
                    try clear hcz9_4
                    try clear hfz13_0
                    try clear hfz13_1
                    try clear hfz13_2
                    try clear hfz13_3
                    try clear hfz13_4
                    try clear hfz16_0
                    try clear hfz16_1
                    try clear hfz16_2
                    try clear hfz16_3
                    try clear hfz16_4
                    try clear hfz21_0
                    try clear hfz21_1
                    try clear hfz21_2
                    try clear hfz21_3
                    try clear hfz21_4
                    try clear hfz23_0
                    try clear hfz23_1
                    try clear hfz23_2
                    try clear hfz9_0
                    try clear hfz9_1
                    try clear hfz9_2
                    try clear hfz9_3
                    try clear hfz9_4
                    try clear hx210_0
                    try clear hx210_1
                    try clear hx210_2
                    try clear hx210_3
                    try clear hx210_4
                    try clear p2
                    try clear p210
                    try clear q210
                    obtain ⟨kq, x5_10, x7_10, x213000_10, x213001_10, x213002_10, rfl, HA, HJ10, HO_7, BK211, BK212, HB⟩ := hcut
                    cases kq with
                    | zero => exact absurd HA.out (by simp [gimballaw13_MedianExact.j2])
                    | succ kj10 =>
                      have H := HA.out
                      clear HA
                      simp only [gimballaw13_MedianExact.j2] at H
                      replace H := Option.bind_eq_some_iff.mp H
                      obtain ⟨t220, A240, H⟩ := H
                      replace H : ((median_Take.f kj10 t220 ((rd_T27 l0 x3_1).f1) ((rd_T27 l0 x3_1).f2.f0) ((rd_T27 l0 x3_1).f2.f1) ((rd_T27 l0 x3_1).f2.f2)).bind fun bt223 => ((gimballaw13_num.f bt223.2.2.2.2).bind fun t231 => (if t231 = x5_10 then (if (!(bt223.2.1 == x213000_10) || (!(bt223.2.2.1 == x213001_10) || (!(bt223.2.2.2.1 == x213002_10)))) = true then (gimballaw13_MedianExact.j3 kj10 l0 x3_1 t220 bt223.1 true ((rd_T27 l0 x3_1).f0) ((rd_T27 l0 x3_1).f1) ((rd_T27 l0 x3_1).f2.f0) ((rd_T27 l0 x3_1).f2.f1) ((rd_T27 l0 x3_1).f2.f2)) else ((gimbalref0_EqVecs.f kj10 bt223.1 x7_10).bind fun t232 => (if t232 = true then ((gimbalref0_EqVecs.f kj10 t220 ((rd_T27 l0 x3_1).f0)).bind fun t233 => (gimballaw13_MedianExact.j3 kj10 l0 x3_1 t220 bt223.1 (!t233) ((rd_T27 l0 x3_1).f0) ((rd_T27 l0 x3_1).f1) ((rd_T27 l0 x3_1).f2.f0) ((rd_T27 l0 x3_1).f2.f1) ((rd_T27 l0 x3_1).f2.f2))) else (gimballaw13_MedianExact.j3 kj10 l0 x3_1 t220 bt223.1 true ((rd_T27 l0 x3_1).f0) ((rd_T27 l0 x3_1).f1) ((rd_T27 l0 x3_1).f2.f0) ((rd_T27 l0 x3_1).f2.f1) ((rd_T27 l0 x3_1).f2.f2))))) else (gimballaw13_MedianExact.j3 kj10 l0 x3_1 t220 bt223.1 true ((rd_T27 l0 x3_1).f0) ((rd_T27 l0 x3_1).f1) ((rd_T27 l0 x3_1).f2.f0) ((rd_T27 l0 x3_1).f2.f1) ((rd_T27 l0 x3_1).f2.f2))))) = some r := H
                      have A24 := Aside0.mk A240
                      clear A240
                      replace H := Option.bind_eq_some_iff.mp H
                      obtain ⟨⟨t223, t226, t227, t228, t229⟩, A250, H⟩ := H
                      replace H : ((gimballaw13_num.f t229).bind fun t231 => (if t231 = x5_10 then (if (!(t226 == x213000_10) || (!(t227 == x213001_10) || (!(t228 == x213002_10)))) = true then (gimballaw13_MedianExact.j3 kj10 l0 x3_1 t220 t223 true ((rd_T27 l0 x3_1).f0) ((rd_T27 l0 x3_1).f1) ((rd_T27 l0 x3_1).f2.f0) ((rd_T27 l0 x3_1).f2.f1) ((rd_T27 l0 x3_1).f2.f2)) else ((gimbalref0_EqVecs.f kj10 t223 x7_10).bind fun t232 => (if t232 = true then ((gimbalref0_EqVecs.f kj10 t220 ((rd_T27 l0 x3_1).f0)).bind fun t233 => (gimballaw13_MedianExact.j3 kj10 l0 x3_1 t220 t223 (!t233) ((rd_T27 l0 x3_1).f0) ((rd_T27 l0 x3_1).f1) ((rd_T27 l0 x3_1).f2.f0) ((rd_T27 l0 x3_1).f2.f1) ((rd_T27 l0 x3_1).f2.f2))) else (gimballaw13_MedianExact.j3 kj10 l0 x3_1 t220 t223 true ((rd_T27 l0 x3_1).f0) ((rd_T27 l0 x3_1).f1) ((rd_T27 l0 x3_1).f2.f0) ((rd_T27 l0 x3_1).f2.f1) ((rd_T27 l0 x3_1).f2.f2))))) else (gimballaw13_MedianExact.j3 kj10 l0 x3_1 t220 t223 true ((rd_T27 l0 x3_1).f0) ((rd_T27 l0 x3_1).f1) ((rd_T27 l0 x3_1).f2.f0) ((rd_T27 l0 x3_1).f2.f1) ((rd_T27 l0 x3_1).f2.f2)))) = some r := H
                      have A25 := Aside0.mk A250
                      clear A250
                      have HC26 := Aside0.mk H
                      clear H
                      have hnb27 := NB211_212.out
                      have hnc27 := NB212_211.out
                      have hcz28_0 : wc.cell? ⟨gb211, 0, none⟩ = some (.slice A210_0 ((rd_T27 l0 x3_1).f0).length c210_0) := (blk_cell BK211.out 0).trans rfl
                      have hcz28_1 : wc.cell? ⟨gb211, 1, none⟩ = some (.int .i64 ((rd_T27 l0 x3_1).f1)) := (blk_cell BK211.out 1).trans rfl
                      have hcz28_2 : wc.cell? ⟨gb211, 2, none⟩ = some (.int .i64 ((rd_T27 l0 x3_1).f2.f0)) := (blk_cell BK211.out 2).trans rfl
                      have hcz28_3 : wc.cell? ⟨gb211, 3, none⟩ = some (.int .i64 ((rd_T27 l0 x3_1).f2.f1)) := (blk_cell BK211.out 3).trans rfl
                      have hcz28_4 : wc.cell? ⟨gb211, 4, none⟩ = some (.int .i64 ((rd_T27 l0 x3_1).f2.f2)) := (blk_cell BK211.out 4).trans rfl
                      have hfz28_0 := blk_frozen BK211.out 0
                      have hfz28_1 := blk_frozen BK211.out 1
                      have hfz28_2 := blk_frozen BK211.out 2
                      have hfz28_3 := blk_frozen BK211.out 3
                      have hfz28_4 := blk_frozen BK211.out 4
                      go_upto_region 15 with (first | ((with_reducible refine gate_callee (f := 8) rfl ?_); refine goesL_ (some 44) rfl rfl Try.func8 (by kernel_rfl) rfl #[.slice A210_0 ((rd_T27 l0 x3_1).f0).length c210_0] rfl (by (try simp only [List.map_toArray, List.map_cons, List.map_nil]); first | done | rfl | (simp only [List.length_drop, List.length_take]; rfl)) ?_; (with_reducible refine (gimbalref0_CopyVecs.calls kj10 _ _ ((rd_T27 l0 x3_1).f0) t220 _ ?side1 ?side2 A24.out).mono ?_); (case side1 => repeat (first | exact (Kd.C_below HR210_0.out HB.out) | (with_reducible refine Kd.C_alloc ?_ _) | (with_reducible refine Kd.C_drewN ?_ _) | (with_reducible refine Kd.C_drew ?_))); (case side2 => exact HC210_0.out); rintro e w29 ⟨v221, rfl, ho0, hb⟩; refine ⟨_, rfl, ?_⟩; have n0_ := Aside0.mk (Kd.Q_elder' (by (with_reducible repeat (first | apply Kd.Q_alloc | apply Kd.Q_drewN | apply Kd.Q_drew)); exact HO_7.out) (Kd.R_base ho0) hb); have n1_ := Aside0.mk (Kd.R_lower (Kd.R_newB (Kd.R_new' ho0 (Kd.Q_lt (by (with_reducible repeat (first | apply Kd.Q_alloc | apply Kd.Q_drewN | apply Kd.Q_drew)); exact HO_7.out))) (g := gb212) (o := .cells #[.int .i64 x213000_10, .int .i64 x213001_10, .int .i64 x213002_10] 25 (0, 0)) (by (with_reducible repeat (first | refine blk_drewN ?_ _ | refine blk_drew ?_ | refine blk_alloc ?_ _)); exact BK212.out)) (below_size (by repeat (first | (with_reducible first | exact HB.out | apply below_alloc | apply pw_below_drewN | apply below_drew1 | refine below_set ?_ GE211.out | refine below_set ?_ GE212.out) | exact HB.out)))); have n2_ := Aside0.mk (blk_below (g := gb211) (o := .cells #[.slice A210_0 ((rd_T27 l0 x3_1).f0).length c210_0, .int .i64 ((rd_T27 l0 x3_1).f1), .int .i64 ((rd_T27 l0 x3_1).f2.f0), .int .i64 ((rd_T27 l0 x3_1).f2.f1), .int .i64 ((rd_T27 l0 x3_1).f2.f2)] 27 (0, 0)) (by (with_reducible repeat (first | refine blk_drewN ?_ _ | refine blk_drew ?_ | refine blk_alloc ?_ _)); exact BK211.out) hb); have n3_ := Aside0.mk (blk_below (g := gb212) (o := .cells #[.int .i64 x213000_10, .int .i64 x213001_10, .int .i64 x213002_10] 25 (0, 0)) (by (with_reducible repeat (first | refine blk_drewN ?_ _ | refine blk_drew ?_ | refine blk_alloc ?_ _)); exact BK212.out) hb); have n4_ := Aside0.mk (below_step (by repeat (first | (with_reducible first | exact HB.out | apply below_alloc | apply pw_below_drewN | apply below_drew1 | refine below_set ?_ GE211.out | refine below_set ?_ GE212.out) | exact HB.out)) hb); clear HO_7; clear BK211; clear BK212; clear HB; have HO_7 := n0_; have HO222 := n1_; have BK211 := n2_; have BK212 := n3_; have HB := n4_; clear n0_ n1_ n2_ n3_ n4_; (try clear hb); (try clear hb2); (try clear hk); (try clear hi); (try clear ho0); have hcz30_0 : w29.cell? ⟨gb211, 0, none⟩ = some (.slice A210_0 ((rd_T27 l0 x3_1).f0).length c210_0) := (blk_cell BK211.out 0).trans rfl; have hcz30_1 : w29.cell? ⟨gb211, 1, none⟩ = some (.int .i64 ((rd_T27 l0 x3_1).f1)) := (blk_cell BK211.out 1).trans rfl; have hcz30_2 : w29.cell? ⟨gb211, 2, none⟩ = some (.int .i64 ((rd_T27 l0 x3_1).f2.f0)) := (blk_cell BK211.out 2).trans rfl; have hcz30_3 : w29.cell? ⟨gb211, 3, none⟩ = some (.int .i64 ((rd_T27 l0 x3_1).f2.f1)) := (blk_cell BK211.out 3).trans rfl; have hcz30_4 : w29.cell? ⟨gb211, 4, none⟩ = some (.int .i64 ((rd_T27 l0 x3_1).f2.f2)) := (blk_cell BK211.out 4).trans rfl; have hfz30_0 := blk_frozen BK211.out 0; have hfz30_1 := blk_frozen BK211.out 1; have hfz30_2 := blk_frozen BK211.out 2; have hfz30_3 := blk_frozen BK211.out 3; have hfz30_4 := blk_frozen BK211.out 4; obtain ⟨Ao31, co31, eo31⟩ := Kd.R_slice HO222.out; subst eo31) | ((with_reducible refine gate_callee (f := 9) rfl ?_); refine goesL_ (some 51) rfl rfl Try.func9 (by kernel_rfl) rfl #[.slice Ao31 t220.length co31, .int .i64 ((rd_T27 l0 x3_1).f1), .agg #[.int .i64 ((rd_T27 l0 x3_1).f2.f0), .int .i64 ((rd_T27 l0 x3_1).f2.f1), .int .i64 ((rd_T27 l0 x3_1).f2.f2)]] rfl (by (try simp only [List.map_toArray, List.map_cons, List.map_nil]); first | done | rfl | (simp only [List.length_drop, List.length_take]; rfl)) ?_; (with_reducible refine (median_Take.calls kj10 _ _ t220 ((rd_T27 l0 x3_1).f1) ((rd_T27 l0 x3_1).f2.f0) ((rd_T27 l0 x3_1).f2.f1) ((rd_T27 l0 x3_1).f2.f2) t223 t226 t227 t228 t229 _ ?side1 ?side2 A25.out).mono ?_); (case side1 => repeat (first | exact (Kd.R_reads' HO222.out).2.2 | (with_reducible refine Kd.C_alloc ?_ _) | (with_reducible refine Kd.C_drewN ?_ _) | (with_reducible refine Kd.C_drew ?_))); (case side2 => exact (Kd.R_reads' HO222.out).2.1); rintro e w32 ⟨v224, rfl, ho0, hb⟩; refine ⟨_, rfl, ?_⟩; have n0_ := Aside0.mk (Kd.Q_elder' (by (with_reducible repeat (first | apply Kd.Q_alloc | apply Kd.Q_drewN | apply Kd.Q_drew)); exact HO_7.out) (Kd.Q_base ho0) hb); have n1_ := Aside0.mk (Kd.R_elder' (by (with_reducible repeat (first | apply Kd.R_alloc | apply Kd.R_drewN | apply Kd.R_drew)); exact HO222.out) (Kd.Q_base ho0) hb); have n2_ := Aside0.mk (Kd.Q_lower (Kd.Q_newB (Kd.Q_new' (Kd.Q_new' ho0 (Kd.Q_lt (by (with_reducible repeat (first | apply Kd.Q_alloc | apply Kd.Q_drewN | apply Kd.Q_drew)); exact HO_7.out))) (Kd.R_lt (by (with_reducible repeat (first | apply Kd.R_alloc | apply Kd.R_drewN | apply Kd.R_drew)); exact HO222.out))) (g := gb212) (o := .cells #[.int .i64 x213000_10, .int .i64 x213001_10, .int .i64 x213002_10] 25 (0, 0)) (by (with_reducible repeat (first | refine blk_drewN ?_ _ | refine blk_drew ?_ | refine blk_alloc ?_ _)); exact BK212.out)) (below_size (by repeat (first | (with_reducible first | exact HB.out | apply below_alloc | apply pw_below_drewN | apply below_drew1 | refine below_set ?_ GE211.out | refine below_set ?_ GE212.out) | exact HB.out)))); have n3_ := Aside0.mk (blk_below (g := gb211) (o := .cells #[.slice A210_0 ((rd_T27 l0 x3_1).f0).length c210_0, .int .i64 ((rd_T27 l0 x3_1).f1), .int .i64 ((rd_T27 l0 x3_1).f2.f0), .int .i64 ((rd_T27 l0 x3_1).f2.f1), .int .i64 ((rd_T27 l0 x3_1).f2.f2)] 27 (0, 0)) (by (with_reducible repeat (first | refine blk_drewN ?_ _ | refine blk_drew ?_ | refine blk_alloc ?_ _)); exact BK211.out) hb); have n4_ := Aside0.mk (blk_below (g := gb212) (o := .cells #[.int .i64 x213000_10, .int .i64 x213001_10, .int .i64 x213002_10] 25 (0, 0)) (by (with_reducible repeat (first | refine blk_drewN ?_ _ | refine blk_drew ?_ | refine blk_alloc ?_ _)); exact BK212.out) hb); have n5_ := Aside0.mk (below_step (by repeat (first | (with_reducible first | exact HB.out | apply below_alloc | apply pw_below_drewN | apply below_drew1 | refine below_set ?_ GE211.out | refine below_set ?_ GE212.out) | exact HB.out)) hb); clear HO_7; clear HO222; clear BK211; clear BK212; clear HB; have HO_7 := n0_; have HO222 := n1_; have HO225 := n2_; have BK211 := n3_; have BK212 := n4_; have HB := n5_; clear n0_ n1_ n2_ n3_ n4_ n5_; (try clear hb); (try clear hb2); (try clear hk); (try clear hi); (try clear ho0)) | ((with_reducible refine gate_dst (N := 10) rfl ?_); refine box_event ?hg (N := 10) ?hd (cs := #[.int .i64 0, .int .i64 0, .int .i64 0]) (t := 25) ?hr ?_; (case hd => rfl); (case hg => rfl); (case hr => first | (go_simp; done) | (go_simp; rfl)); intro gb230 hg w33 hbox hb; have n0_ := Aside0.mk (Kd.Q_below (Kd.Q_elderB (by (with_reducible repeat (first | apply Kd.Q_alloc | apply Kd.Q_drewN | apply Kd.Q_drew)); exact HO_7.out) gb230 (Nat.le_of_eq hg.symm)) hb); have n1_ := Aside0.mk (Kd.R_below (Kd.R_elderB (by (with_reducible repeat (first | apply Kd.R_alloc | apply Kd.R_drewN | apply Kd.R_drew)); exact HO222.out) gb230 (Nat.le_of_eq hg.symm)) hb); have n2_ := Aside0.mk (Kd.Q_below (Kd.Q_elderB (by (with_reducible repeat (first | apply Kd.Q_alloc | apply Kd.Q_drewN | apply Kd.Q_drew)); exact HO225.out) gb230 (Nat.le_of_eq hg.symm)) hb); have n3_ := Aside0.mk (blk_below (g := gb211) (o := .cells #[.slice A210_0 ((rd_T27 l0 x3_1).f0).length c210_0, .int .i64 ((rd_T27 l0 x3_1).f1), .int .i64 ((rd_T27 l0 x3_1).f2.f0), .int .i64 ((rd_T27 l0 x3_1).f2.f1), .int .i64 ((rd_T27 l0 x3_1).f2.f2)] 27 (0, 0)) (by (with_reducible repeat (first | refine blk_drewN ?_ _ | refine blk_drew ?_ | refine blk_alloc ?_ _)); exact BK211.out) hb); have n4_ := Aside0.mk (blk_below (g := gb212) (o := .cells #[.int .i64 x213000_10, .int .i64 x213001_10, .int .i64 x213002_10] 25 (0, 0)) (by (with_reducible repeat (first | refine blk_drewN ?_ _ | refine blk_drew ?_ | refine blk_alloc ?_ _)); exact BK212.out) hb); have n5_ := Aside0.mk (below_step (by repeat (first | (with_reducible first | exact HB.out | apply below_alloc | apply pw_below_drewN | apply below_drew1 | refine below_set ?_ GE211.out | refine below_set ?_ GE212.out) | exact HB.out)) hb); have n6_ := Aside0.mk (hbox); have n7_ := Aside0.mk ((by rw [hg]; exact (below_size (by repeat (first | (with_reducible first | exact HB.out | apply below_alloc | apply pw_below_drewN | apply below_drew1 | refine below_set ?_ GE211.out | refine below_set ?_ GE212.out) | exact HB.out))) : w.heap.size ≤ gb230)); have n8_ := Aside0.mk ((by rw [hg]; exact (below_size (by repeat (first | (with_reducible first | exact HB.out | apply below_alloc | apply pw_below_drewN | apply below_drew1 | refine below_set ?_ GE211.out | refine below_set ?_ GE212.out) | exact HB.out))) : w.heap.size ≤ gb230)); have n9_ := Aside0.mk ((by rw [hg]; exact Nat.ne_of_lt (blk_lt (g := gb211) (o := .cells #[.slice A210_0 ((rd_T27 l0 x3_1).f0).length c210_0, .int .i64 ((rd_T27 l0 x3_1).f1), .int .i64 ((rd_T27 l0 x3_1).f2.f0), .int .i64 ((rd_T27 l0 x3_1).f2.f1), .int .i64 ((rd_T27 l0 x3_1).f2.f2)] 27 (0, 0)) (by (with_reducible repeat (first | refine blk_drewN ?_ _ | refine blk_drew ?_ | refine blk_alloc ?_ _)); exact BK211.out)) : gb211 ≠ gb230)); have n10_ := Aside0.mk ((by rw [hg]; exact Nat.ne_of_gt (blk_lt (g := gb211) (o := .cells #[.slice A210_0 ((rd_T27 l0 x3_1).f0).length c210_0, .int .i64 ((rd_T27 l0 x3_1).f1), .int .i64 ((rd_T27 l0 x3_1).f2.f0), .int .i64 ((rd_T27 l0 x3_1).f2.f1), .int .i64 ((rd_T27 l0 x3_1).f2.f2)] 27 (0, 0)) (by (with_reducible repeat (first | refine blk_drewN ?_ _ | refine blk_drew ?_ | refine blk_alloc ?_ _)); exact BK211.out)) : gb230 ≠ gb211)); have n11_ := Aside0.mk ((by rw [hg]; exact Nat.ne_of_lt (blk_lt (g := gb212) (o := .cells #[.int .i64 x213000_10, .int .i64 x213001_10, .int .i64 x213002_10] 25 (0, 0)) (by (with_reducible repeat (first | refine blk_drewN ?_ _ | refine blk_drew ?_ | refine blk_alloc ?_ _)); exact BK212.out)) : gb212 ≠ gb230)); have n12_ := Aside0.mk ((by rw [hg]; exact Nat.ne_of_gt (blk_lt (g := gb212) (o := .cells #[.int .i64 x213000_10, .int .i64 x213001_10, .int .i64 x213002_10] 25 (0, 0)) (by (with_reducible repeat (first | refine blk_drewN ?_ _ | refine blk_drew ?_ | refine blk_alloc ?_ _)); exact BK212.out)) : gb230 ≠ gb212)); clear HO_7; clear HO222; clear HO225; clear BK211; clear BK212; clear HB; have HO_7 := n0_; have HO222 := n1_; have HO225 := n2_; have BK211 := n3_; have BK212 := n4_; have HB := n5_; have BK230 := n6_; have GW230 := n7_; have GE230 := n8_; have NB211_230 := n9_; have NB230_211 := n10_; have NB212_230 := n11_; have NB230_212 := n12_; clear n0_ n1_ n2_ n3_ n4_ n5_ n6_ n7_ n8_ n9_ n10_ n11_ n12_; clear hb hbox hg; have hnb34 := NB230_211.out; have hnc34 := NB211_230.out; have hnb35 := NB230_212.out; have hnc35 := NB212_230.out; have hcz36_0 : w33.cell? ⟨gb230, 0, none⟩ = some (.int .i64 0) := (blk_cell BK230.out 0).trans rfl; have hcz36_1 : w33.cell? ⟨gb230, 1, none⟩ = some (.int .i64 0) := (blk_cell BK230.out 1).trans rfl; have hcz36_2 : w33.cell? ⟨gb230, 2, none⟩ = some (.int .i64 0) := (blk_cell BK230.out 2).trans rfl; have hfz36_0 := blk_frozen BK230.out 0; have hfz36_1 := blk_frozen BK230.out 1; have hfz36_2 := blk_frozen BK230.out 2))
                      (try simp only [Act.put, List.setIfInBounds_toArray, List.set_cons_zero, List.set_cons_succ])
                      go_cut [76] (fun v76 wc => ∃ (kq : Nat) (x76_25 : Bool), v76 = .bool x76_25 ∧ Aside0 (gimballaw13_MedianExact.j3 kq l0 x3_1 t220 t223 x76_25 ((rd_T27 l0 x3_1).f0) ((rd_T27 l0 x3_1).f1) ((rd_T27 l0 x3_1).f2.f0) ((rd_T27 l0 x3_1).f2.f1) ((rd_T27 l0 x3_1).f2.f2) = some r) ∧ Aside0 (kq ≤ kj10) ∧ Aside0 (Kd.R k25 25 wc w.heap.size (fun k_ => some k_ ≠ (v224 : Value).ownBlock ∧ k_ ≠ gb212 ∧ k_ ≠ gb230) (.slice Ao31 t220.length co31) t220) ∧ Aside0 (Kd.Q k25 25 wc w.heap.size (fun k_ => some k_ ≠ ((.slice Ao31 t220.length co31) : Value).ownBlock ∧ k_ ≠ gb212 ∧ k_ ≠ gb230) v224 t223) ∧ Aside0 (wc.heap[gb211]? = some (.cells #[(.slice A210_0 ((rd_T27 l0 x3_1).f0).length c210_0), .int .i64 ((rd_T27 l0 x3_1).f1), .int .i64 ((rd_T27 l0 x3_1).f2.f0), .int .i64 ((rd_T27 l0 x3_1).f2.f1), .int .i64 ((rd_T27 l0 x3_1).f2.f2)] 27 (0, 0))) ∧ Aside0 (wc.heap[gb212]? = some (.cells #[.int .i64 x213000_10, .int .i64 x213001_10, .int .i64 x213002_10] 25 (0, 0))) ∧ Aside0 (wc.heap[gb230]? = some (.cells #[.int .i64 t226, .int .i64 t227, .int .i64 t228] 25 (0, 0))) ∧ Aside0 (Below w.heap.size w wc))
                      case first =>
                        have H := HC26.out
                        clear HC26
                        replace H := Option.bind_eq_some_iff.mp H
                        obtain ⟨t231, A370, H⟩ := H
                        replace H : (if t231 = x5_10 then (if (!(t226 == x213000_10) || (!(t227 == x213001_10) || (!(t228 == x213002_10)))) = true then (gimballaw13_MedianExact.j3 kj10 l0 x3_1 t220 t223 true ((rd_T27 l0 x3_1).f0) ((rd_T27 l0 x3_1).f1) ((rd_T27 l0 x3_1).f2.f0) ((rd_T27 l0 x3_1).f2.f1) ((rd_T27 l0 x3_1).f2.f2)) else ((gimbalref0_EqVecs.f kj10 t223 x7_10).bind fun t232 => (if t232 = true then ((gimbalref0_EqVecs.f kj10 t220 ((rd_T27 l0 x3_1).f0)).bind fun t233 => (gimballaw13_MedianExact.j3 kj10 l0 x3_1 t220 t223 (!t233) ((rd_T27 l0 x3_1).f0) ((rd_T27 l0 x3_1).f1) ((rd_T27 l0 x3_1).f2.f0) ((rd_T27 l0 x3_1).f2.f1) ((rd_T27 l0 x3_1).f2.f2))) else (gimballaw13_MedianExact.j3 kj10 l0 x3_1 t220 t223 true ((rd_T27 l0 x3_1).f0) ((rd_T27 l0 x3_1).f1) ((rd_T27 l0 x3_1).f2.f0) ((rd_T27 l0 x3_1).f2.f1) ((rd_T27 l0 x3_1).f2.f2))))) else (gimballaw13_MedianExact.j3 kj10 l0 x3_1 t220 t223 true ((rd_T27 l0 x3_1).f0) ((rd_T27 l0 x3_1).f1) ((rd_T27 l0 x3_1).f2.f0) ((rd_T27 l0 x3_1).f2.f1) ((rd_T27 l0 x3_1).f2.f2))) = some r := H
                        have A37 := Aside0.mk A370
                        clear A370
                        by_cases c38 : t231 = x5_10
                        · rw [if_pos c38] at H
                          have c38b0 : (t231 == x5_10) = true := beq_iff_eq.mpr c38
                          have c38b1 : (t231 != x5_10) = false := bne_eq_false_iff_eq.mpr c38
                          clear c38
                          (first | rw [c38b0] | (simp only [i64_w, i32_w]; rw [c38b0]) | skip)
                          by_cases c39 : (!(t226 == x213000_10) || (!(t227 == x213001_10) || (!(t228 == x213002_10)))) = true
                          · rw [if_pos c39] at H
                            have c39b0 : (!(t226 == x213000_10) || (!(t227 == x213001_10) || (!(t228 == x213002_10)))) = true := c39
                            clear c39
                            have H' := Aside0.mk H
                            clear H
                            go_wp2_with (first | ((with_reducible refine gate_callee (f := 10) rfl ?_); refine goesL_ (some 56) rfl rfl Try.func10 (by kernel_rfl) rfl #[.int .i64 t229] rfl (by (try simp only [List.map_toArray, List.map_cons, List.map_nil]); first | done | rfl | (simp only [List.length_drop, List.length_take]; rfl)) ?_; (with_reducible refine (gimballaw13_num.calls t229 t231 _ A37.out).mono ?_); rintro e w' ⟨rfl, ⟨nd, rfl⟩⟩; refine ⟨_, rfl, ?_⟩; have hnb40 := NB230_211.out; have hnc40 := NB211_230.out; have hnb41 := NB230_212.out; have hnc41 := NB212_230.out; have hcz42_0 : w33.cell? ⟨gb230, 0, none⟩ = some (.int .i64 0) := (blk_cell BK230.out 0).trans rfl; have hcz42_1 : w33.cell? ⟨gb230, 1, none⟩ = some (.int .i64 0) := (blk_cell BK230.out 1).trans rfl; have hcz42_2 : w33.cell? ⟨gb230, 2, none⟩ = some (.int .i64 0) := (blk_cell BK230.out 2).trans rfl; have hfz42_0 := blk_frozen BK230.out 0; have hfz42_1 := blk_frozen BK230.out 1; have hfz42_2 := blk_frozen BK230.out 2; have hnb43 := NB212_211.out; have hnc43 := NB211_212.out; have hcz44_0 : w33.cell? ⟨gb212, 0, none⟩ = some (.int .i64 x213000_10) := (blk_cell BK212.out 0).trans rfl; have hcz44_1 : w33.cell? ⟨gb212, 1, none⟩ = some (.int .i64 x213001_10) := (blk_cell BK212.out 1).trans rfl; have hcz44_2 : w33.cell? ⟨gb212, 2, none⟩ = some (.int .i64 x213002_10) := (blk_cell BK212.out 2).trans rfl; have hfz44_0 := blk_frozen BK212.out 0; have hfz44_1 := blk_frozen BK212.out 1; have hfz44_2 := blk_frozen BK212.out 2))
                            go_meet
                            case rel => exact ⟨_, (true), (by first | rfl | (simp; done) | (simp [*]; done)), H', ⟨by have := HK1.out; have := HJ1.out; have := HJ10.out; first | omega | exact Nat.le_refl _⟩, ⟨by (with_reducible repeat (first | apply Kd.R_alloc | apply Kd.R_drewN | apply Kd.R_drew)); exact Kd.R_mono (Kd.R_far (p := ⟨gb230, 2, none⟩) (Kd.R_far (p := ⟨gb230, 1, none⟩) (Kd.R_far (p := ⟨gb230, 0, none⟩) (Kd.R_mono HO222.out (fun k_ hk => (⟨hk, hk.2⟩ : _ ∧ k_ ≠ gb230))) (fun _ hk => hk.2) (.int .i64 t226)) (fun _ hk => hk.2) (.int .i64 t227)) (fun _ hk => hk.2) (.int .i64 t228)) (fun _ hk => ⟨hk.1.1.2, ⟨hk.1.1.1.2, hk.1.2⟩⟩)⟩, ⟨by (with_reducible repeat (first | apply Kd.Q_alloc | apply Kd.Q_drewN | apply Kd.Q_drew)); exact Kd.Q_mono (Kd.Q_far (p := ⟨gb230, 2, none⟩) (Kd.Q_far (p := ⟨gb230, 1, none⟩) (Kd.Q_far (p := ⟨gb230, 0, none⟩) (Kd.Q_mono HO225.out (fun k_ hk => (⟨hk, hk.2⟩ : _ ∧ k_ ≠ gb230))) (fun _ hk => hk.2) (.int .i64 t226)) (fun _ hk => hk.2) (.int .i64 t227)) (fun _ hk => hk.2) (.int .i64 t228)) (fun _ hk => ⟨hk.1.1.1.2, ⟨hk.1.1.2, hk.1.2⟩⟩)⟩, ⟨by (with_reducible repeat (first | refine blk_drewN ?_ _ | refine blk_drew ?_ | refine blk_alloc ?_ _)); refine blk_far ?_ NB211_230.out _; (with_reducible repeat (first | refine blk_drewN ?_ _ | refine blk_drew ?_ | refine blk_alloc ?_ _)); refine blk_far ?_ NB211_230.out _; (with_reducible repeat (first | refine blk_drewN ?_ _ | refine blk_drew ?_ | refine blk_alloc ?_ _)); refine blk_far ?_ NB211_230.out _; (with_reducible repeat (first | refine blk_drewN ?_ _ | refine blk_drew ?_ | refine blk_alloc ?_ _)); exact BK211.out⟩, ⟨by (with_reducible repeat (first | refine blk_drewN ?_ _ | refine blk_drew ?_ | refine blk_alloc ?_ _)); refine blk_far ?_ NB212_230.out _; (with_reducible repeat (first | refine blk_drewN ?_ _ | refine blk_drew ?_ | refine blk_alloc ?_ _)); refine blk_far ?_ NB212_230.out _; (with_reducible repeat (first | refine blk_drewN ?_ _ | refine blk_drew ?_ | refine blk_alloc ?_ _)); refine blk_far ?_ NB212_230.out _; (with_reducible repeat (first | refine blk_drewN ?_ _ | refine blk_drew ?_ | refine blk_alloc ?_ _)); exact BK212.out⟩, ⟨by (with_reducible repeat (first | refine blk_drewN ?_ _ | refine blk_drew ?_ | refine blk_alloc ?_ _)); refine blk_put (cs := #[.int .i64 t226, .int .i64 t227, .int .i64 0]) ?_ 2 _ rfl; (with_reducible repeat (first | refine blk_drewN ?_ _ | refine blk_drew ?_ | refine blk_alloc ?_ _)); refine blk_put (cs := #[.int .i64 t226, .int .i64 0, .int .i64 0]) ?_ 1 _ rfl; (with_reducible repeat (first | refine blk_drewN ?_ _ | refine blk_drew ?_ | refine blk_alloc ?_ _)); refine blk_put (cs := #[.int .i64 0, .int .i64 0, .int .i64 0]) ?_ 0 _ rfl; (with_reducible repeat (first | refine blk_drewN ?_ _ | refine blk_drew ?_ | refine blk_alloc ?_ _)); exact BK230.out⟩, ⟨by repeat (first | (with_reducible first | exact HB.out | apply below_alloc | apply pw_below_drewN | apply below_drew1 | refine below_set ?_ GE211.out | refine below_set ?_ GE212.out | refine below_set ?_ GE230.out) | exact HB.out)⟩⟩
                          · rw [if_neg c39] at H
                            have c39b0 : (!(t226 == x213000_10) || (!(t227 == x213001_10) || (!(t228 == x213002_10)))) = false := by simpa using c39
                            clear c39
                            replace H := Option.bind_eq_some_iff.mp H
                            obtain ⟨t232, A450, H⟩ := H
                            replace H : (if t232 = true then ((gimbalref0_EqVecs.f kj10 t220 ((rd_T27 l0 x3_1).f0)).bind fun t233 => (gimballaw13_MedianExact.j3 kj10 l0 x3_1 t220 t223 (!t233) ((rd_T27 l0 x3_1).f0) ((rd_T27 l0 x3_1).f1) ((rd_T27 l0 x3_1).f2.f0) ((rd_T27 l0 x3_1).f2.f1) ((rd_T27 l0 x3_1).f2.f2))) else (gimballaw13_MedianExact.j3 kj10 l0 x3_1 t220 t223 true ((rd_T27 l0 x3_1).f0) ((rd_T27 l0 x3_1).f1) ((rd_T27 l0 x3_1).f2.f0) ((rd_T27 l0 x3_1).f2.f1) ((rd_T27 l0 x3_1).f2.f2))) = some r := H
                            have A45 := Aside0.mk A450
                            clear A450
                            by_cases c46 : t232 = true
                            · subst c46
                              have H1 : ((gimbalref0_EqVecs.f kj10 t220 ((rd_T27 l0 x3_1).f0)).bind fun t233 => (gimballaw13_MedianExact.j3 kj10 l0 x3_1 t220 t223 (!t233) ((rd_T27 l0 x3_1).f0) ((rd_T27 l0 x3_1).f1) ((rd_T27 l0 x3_1).f2.f0) ((rd_T27 l0 x3_1).f2.f1) ((rd_T27 l0 x3_1).f2.f2))) = some r := by rw [if_pos rfl] at H; exact H
                              clear H
                              have H := H1
                              clear H1
                              replace H := Option.bind_eq_some_iff.mp H
                              obtain ⟨t233, A470, H⟩ := H
                              replace H : (gimballaw13_MedianExact.j3 kj10 l0 x3_1 t220 t223 (!t233) ((rd_T27 l0 x3_1).f0) ((rd_T27 l0 x3_1).f1) ((rd_T27 l0 x3_1).f2.f0) ((rd_T27 l0 x3_1).f2.f1) ((rd_T27 l0 x3_1).f2.f2)) = some r := H
                              have A47 := Aside0.mk A470
                              clear A470
                              have H' := Aside0.mk H
                              clear H
                              go_wp2_with (first | ((with_reducible refine gate_callee (f := 10) rfl ?_); refine goesL_ (some 56) rfl rfl Try.func10 (by kernel_rfl) rfl #[.int .i64 t229] rfl (by (try simp only [List.map_toArray, List.map_cons, List.map_nil]); first | done | rfl | (simp only [List.length_drop, List.length_take]; rfl)) ?_; (with_reducible refine (gimballaw13_num.calls t229 t231 _ A37.out).mono ?_); rintro e w' ⟨rfl, ⟨nd, rfl⟩⟩; refine ⟨_, rfl, ?_⟩; have hnb48 := NB230_211.out; have hnc48 := NB211_230.out; have hnb49 := NB230_212.out; have hnc49 := NB212_230.out; have hcz50_0 : w33.cell? ⟨gb230, 0, none⟩ = some (.int .i64 0) := (blk_cell BK230.out 0).trans rfl; have hcz50_1 : w33.cell? ⟨gb230, 1, none⟩ = some (.int .i64 0) := (blk_cell BK230.out 1).trans rfl; have hcz50_2 : w33.cell? ⟨gb230, 2, none⟩ = some (.int .i64 0) := (blk_cell BK230.out 2).trans rfl; have hfz50_0 := blk_frozen BK230.out 0; have hfz50_1 := blk_frozen BK230.out 1; have hfz50_2 := blk_frozen BK230.out 2; have hnb51 := NB212_211.out; have hnc51 := NB211_212.out; have hcz52_0 : w33.cell? ⟨gb212, 0, none⟩ = some (.int .i64 x213000_10) := (blk_cell BK212.out 0).trans rfl; have hcz52_1 : w33.cell? ⟨gb212, 1, none⟩ = some (.int .i64 x213001_10) := (blk_cell BK212.out 1).trans rfl; have hcz52_2 : w33.cell? ⟨gb212, 2, none⟩ = some (.int .i64 x213002_10) := (blk_cell BK212.out 2).trans rfl; have hfz52_0 := blk_frozen BK212.out 0; have hfz52_1 := blk_frozen BK212.out 1; have hfz52_2 := blk_frozen BK212.out 2; obtain ⟨Ao53, co53, eo53, _⟩ := Kd.Q_slice HO225.out; subst eo53; obtain ⟨Ao54, co54, eo54, _⟩ := Kd.Q_slice HO_7.out; subst eo54) | (go_at_call 11; (with_reducible refine (gimbalref0_EqVecs.calls kj10 _ _ t223 _ _ x7_10 true _ ?side1 ?side2 ?side3 ?side4 A45.out).mono ?_); (case side1 => refine (Kd.Q_reads' (e := 25) (base := w.heap.size) (ok := fun k_ => ((((True ∧ some k_ ≠ (.slice Ao54 x7_10.length co54 : Value).ownBlock) ∧ some k_ ≠ (.slice Ao31 t220.length co31 : Value).ownBlock) ∧ k_ ≠ gb212) ∧ k_ ≠ gb230)) (n := t223.length) (c := co53) ?_).2.2; exact (by (with_reducible repeat (first | apply Kd.Q_alloc | apply Kd.Q_drewN | apply Kd.Q_drew)); exact (Kd.Q_mono (Kd.Q_far (p := ⟨gb230, 2, none⟩) (Kd.Q_far (p := ⟨gb230, 1, none⟩) (Kd.Q_far (p := ⟨gb230, 0, none⟩) (Kd.Q_mono HO225.out (fun k_ hk => (⟨hk, hk.2⟩ : _ ∧ k_ ≠ gb230))) (fun _ hk => hk.2) (.int .i64 t226)) (fun _ hk => hk.2) (.int .i64 t227)) (fun _ hk => hk.2) (.int .i64 t228)) (fun _ h_ => h_.1)))); (case side2 => exact (Kd.Q_reads' HO225.out).2.1); (case side3 => refine (Kd.Q_reads' (e := 25) (base := w.heap.size) (ok := fun k_ => (((k_ ≠ gb212 ∧ some k_ ≠ (.slice Ao31 t220.length co31 : Value).ownBlock) ∧ some k_ ≠ (.slice Ao53 t223.length co53 : Value).ownBlock) ∧ k_ ≠ gb230)) (n := x7_10.length) (c := co54) ?_).2.2; exact (by (with_reducible repeat (first | apply Kd.Q_alloc | apply Kd.Q_drewN | apply Kd.Q_drew)); exact (Kd.Q_mono (Kd.Q_far (p := ⟨gb230, 2, none⟩) (Kd.Q_far (p := ⟨gb230, 1, none⟩) (Kd.Q_far (p := ⟨gb230, 0, none⟩) (Kd.Q_mono HO_7.out (fun k_ hk => (⟨hk, hk.2⟩ : _ ∧ k_ ≠ gb230))) (fun _ hk => hk.2) (.int .i64 t226)) (fun _ hk => hk.2) (.int .i64 t227)) (fun _ hk => hk.2) (.int .i64 t228)) (fun _ h_ => h_.1)))); (case side4 => exact (Kd.Q_reads' HO_7.out).2.1); rintro e w' ⟨rfl, ⟨nd, rfl⟩⟩; have hcz55_0 : w33.cell? ⟨gb211, 0, none⟩ = some (.slice A210_0 ((rd_T27 l0 x3_1).f0).length c210_0) := (blk_cell BK211.out 0).trans rfl; have hcz55_1 : w33.cell? ⟨gb211, 1, none⟩ = some (.int .i64 ((rd_T27 l0 x3_1).f1)) := (blk_cell BK211.out 1).trans rfl; have hcz55_2 : w33.cell? ⟨gb211, 2, none⟩ = some (.int .i64 ((rd_T27 l0 x3_1).f2.f0)) := (blk_cell BK211.out 2).trans rfl; have hcz55_3 : w33.cell? ⟨gb211, 3, none⟩ = some (.int .i64 ((rd_T27 l0 x3_1).f2.f1)) := (blk_cell BK211.out 3).trans rfl; have hcz55_4 : w33.cell? ⟨gb211, 4, none⟩ = some (.int .i64 ((rd_T27 l0 x3_1).f2.f2)) := (blk_cell BK211.out 4).trans rfl; have hfz55_0 := blk_frozen BK211.out 0; have hfz55_1 := blk_frozen BK211.out 1; have hfz55_2 := blk_frozen BK211.out 2; have hfz55_3 := blk_frozen BK211.out 3; have hfz55_4 := blk_frozen BK211.out 4) | (go_at_call 11; (with_reducible refine (gimbalref0_EqVecs.calls kj10 _ _ t220 _ _ ((rd_T27 l0 x3_1).f0) t233 _ ?side1 ?side2 ?side3 ?side4 A47.out).mono ?_); (case side1 => refine (Kd.R_reads' (e := 25) (base := w.heap.size) (ok := fun k_ => ((((True ∧ some k_ ≠ (.slice Ao54 x7_10.length co54 : Value).ownBlock) ∧ k_ ≠ gb212) ∧ some k_ ≠ (.slice Ao53 t223.length co53 : Value).ownBlock) ∧ k_ ≠ gb230)) (n := t220.length) (c := co31) ?_).2.2; exact (by (with_reducible repeat (first | apply Kd.R_alloc | apply Kd.R_drewN | apply Kd.R_drew)); exact (Kd.R_mono (Kd.R_far (p := ⟨gb230, 2, none⟩) (Kd.R_far (p := ⟨gb230, 1, none⟩) (Kd.R_far (p := ⟨gb230, 0, none⟩) (Kd.R_mono HO222.out (fun k_ hk => (⟨hk, hk.2⟩ : _ ∧ k_ ≠ gb230))) (fun _ hk => hk.2) (.int .i64 t226)) (fun _ hk => hk.2) (.int .i64 t227)) (fun _ hk => hk.2) (.int .i64 t228)) (fun _ h_ => h_.1)))); (case side2 => exact (Kd.R_reads' HO222.out).2.1); (case side3 => exact Kd.C_below HR210_0.out (by repeat (first | (with_reducible first | exact HB.out | apply below_alloc | apply pw_below_drewN | apply below_drew1 | refine below_set ?_ GE211.out | refine below_set ?_ GE212.out | refine below_set ?_ GE230.out) | exact HB.out))); (case side4 => exact HC210_0.out); rintro e w' ⟨rfl, ⟨nd, rfl⟩⟩))
                              go_meet
                              case rel => exact ⟨_, (!t233), (by first | rfl | (simp; done) | (simp [*]; done)), H', ⟨by have := HK1.out; have := HJ1.out; have := HJ10.out; first | omega | exact Nat.le_refl _⟩, ⟨by (with_reducible repeat (first | apply Kd.R_alloc | apply Kd.R_drewN | apply Kd.R_drew)); exact Kd.R_mono (Kd.R_far (p := ⟨gb230, 2, none⟩) (Kd.R_far (p := ⟨gb230, 1, none⟩) (Kd.R_far (p := ⟨gb230, 0, none⟩) (Kd.R_mono HO222.out (fun k_ hk => (⟨hk, hk.2⟩ : _ ∧ k_ ≠ gb230))) (fun _ hk => hk.2) (.int .i64 t226)) (fun _ hk => hk.2) (.int .i64 t227)) (fun _ hk => hk.2) (.int .i64 t228)) (fun _ hk => ⟨hk.1.1.2, ⟨hk.1.1.1.2, hk.1.2⟩⟩)⟩, ⟨by (with_reducible repeat (first | apply Kd.Q_alloc | apply Kd.Q_drewN | apply Kd.Q_drew)); exact Kd.Q_mono (Kd.Q_far (p := ⟨gb230, 2, none⟩) (Kd.Q_far (p := ⟨gb230, 1, none⟩) (Kd.Q_far (p := ⟨gb230, 0, none⟩) (Kd.Q_mono HO225.out (fun k_ hk => (⟨hk, hk.2⟩ : _ ∧ k_ ≠ gb230))) (fun _ hk => hk.2) (.int .i64 t226)) (fun _ hk => hk.2) (.int .i64 t227)) (fun _ hk => hk.2) (.int .i64 t228)) (fun _ hk => ⟨hk.1.1.1.2, ⟨hk.1.1.2, hk.1.2⟩⟩)⟩, ⟨by (with_reducible repeat (first | refine blk_drewN ?_ _ | refine blk_drew ?_ | refine blk_alloc ?_ _)); refine blk_far ?_ NB211_230.out _; (with_reducible repeat (first | refine blk_drewN ?_ _ | refine blk_drew ?_ | refine blk_alloc ?_ _)); refine blk_far ?_ NB211_230.out _; (with_reducible repeat (first | refine blk_drewN ?_ _ | refine blk_drew ?_ | refine blk_alloc ?_ _)); refine blk_far ?_ NB211_230.out _; (with_reducible repeat (first | refine blk_drewN ?_ _ | refine blk_drew ?_ | refine blk_alloc ?_ _)); exact BK211.out⟩, ⟨by (with_reducible repeat (first | refine blk_drewN ?_ _ | refine blk_drew ?_ | refine blk_alloc ?_ _)); refine blk_far ?_ NB212_230.out _; (with_reducible repeat (first | refine blk_drewN ?_ _ | refine blk_drew ?_ | refine blk_alloc ?_ _)); refine blk_far ?_ NB212_230.out _; (with_reducible repeat (first | refine blk_drewN ?_ _ | refine blk_drew ?_ | refine blk_alloc ?_ _)); refine blk_far ?_ NB212_230.out _; (with_reducible repeat (first | refine blk_drewN ?_ _ | refine blk_drew ?_ | refine blk_alloc ?_ _)); exact BK212.out⟩, ⟨by (with_reducible repeat (first | refine blk_drewN ?_ _ | refine blk_drew ?_ | refine blk_alloc ?_ _)); refine blk_put (cs := #[.int .i64 t226, .int .i64 t227, .int .i64 0]) ?_ 2 _ rfl; (with_reducible repeat (first | refine blk_drewN ?_ _ | refine blk_drew ?_ | refine blk_alloc ?_ _)); refine blk_put (cs := #[.int .i64 t226, .int .i64 0, .int .i64 0]) ?_ 1 _ rfl; (with_reducible repeat (first | refine blk_drewN ?_ _ | refine blk_drew ?_ | refine blk_alloc ?_ _)); refine blk_put (cs := #[.int .i64 0, .int .i64 0, .int .i64 0]) ?_ 0 _ rfl; (with_reducible repeat (first | refine blk_drewN ?_ _ | refine blk_drew ?_ | refine blk_alloc ?_ _)); exact BK230.out⟩, ⟨by repeat (first | (with_reducible first | exact HB.out | apply below_alloc | apply pw_below_drewN | apply below_drew1 | refine below_set ?_ GE211.out | refine below_set ?_ GE212.out | refine below_set ?_ GE230.out) | exact HB.out)⟩⟩
                            · replace c46 := Bool.eq_false_iff.mpr c46
                              subst c46
                              have H1 : (gimballaw13_MedianExact.j3 kj10 l0 x3_1 t220 t223 true ((rd_T27 l0 x3_1).f0) ((rd_T27 l0 x3_1).f1) ((rd_T27 l0 x3_1).f2.f0) ((rd_T27 l0 x3_1).f2.f1) ((rd_T27 l0 x3_1).f2.f2)) = some r := by rw [if_neg (show ¬ (false = true) by decide)] at H; exact H
                              clear H
                              have H := H1
                              clear H1
                              have H' := Aside0.mk H
                              clear H
                              go_wp2_with (first | ((with_reducible refine gate_callee (f := 10) rfl ?_); refine goesL_ (some 56) rfl rfl Try.func10 (by kernel_rfl) rfl #[.int .i64 t229] rfl (by (try simp only [List.map_toArray, List.map_cons, List.map_nil]); first | done | rfl | (simp only [List.length_drop, List.length_take]; rfl)) ?_; (with_reducible refine (gimballaw13_num.calls t229 t231 _ A37.out).mono ?_); rintro e w' ⟨rfl, ⟨nd, rfl⟩⟩; refine ⟨_, rfl, ?_⟩; have hnb56 := NB230_211.out; have hnc56 := NB211_230.out; have hnb57 := NB230_212.out; have hnc57 := NB212_230.out; have hcz58_0 : w33.cell? ⟨gb230, 0, none⟩ = some (.int .i64 0) := (blk_cell BK230.out 0).trans rfl; have hcz58_1 : w33.cell? ⟨gb230, 1, none⟩ = some (.int .i64 0) := (blk_cell BK230.out 1).trans rfl; have hcz58_2 : w33.cell? ⟨gb230, 2, none⟩ = some (.int .i64 0) := (blk_cell BK230.out 2).trans rfl; have hfz58_0 := blk_frozen BK230.out 0; have hfz58_1 := blk_frozen BK230.out 1; have hfz58_2 := blk_frozen BK230.out 2; have hnb59 := NB212_211.out; have hnc59 := NB211_212.out; have hcz60_0 : w33.cell? ⟨gb212, 0, none⟩ = some (.int .i64 x213000_10) := (blk_cell BK212.out 0).trans rfl; have hcz60_1 : w33.cell? ⟨gb212, 1, none⟩ = some (.int .i64 x213001_10) := (blk_cell BK212.out 1).trans rfl; have hcz60_2 : w33.cell? ⟨gb212, 2, none⟩ = some (.int .i64 x213002_10) := (blk_cell BK212.out 2).trans rfl; have hfz60_0 := blk_frozen BK212.out 0; have hfz60_1 := blk_frozen BK212.out 1; have hfz60_2 := blk_frozen BK212.out 2; obtain ⟨Ao61, co61, eo61, _⟩ := Kd.Q_slice HO225.out; subst eo61; obtain ⟨Ao62, co62, eo62, _⟩ := Kd.Q_slice HO_7.out; subst eo62) | (go_at_call 11; (with_reducible refine (gimbalref0_EqVecs.calls kj10 _ _ t223 _ _ x7_10 false _ ?side1 ?side2 ?side3 ?side4 A45.out).mono ?_); (case side1 => refine (Kd.Q_reads' (e := 25) (base := w.heap.size) (ok := fun k_ => ((((True ∧ some k_ ≠ (.slice Ao62 x7_10.length co62 : Value).ownBlock) ∧ some k_ ≠ (.slice Ao31 t220.length co31 : Value).ownBlock) ∧ k_ ≠ gb212) ∧ k_ ≠ gb230)) (n := t223.length) (c := co61) ?_).2.2; exact (by (with_reducible repeat (first | apply Kd.Q_alloc | apply Kd.Q_drewN | apply Kd.Q_drew)); exact (Kd.Q_mono (Kd.Q_far (p := ⟨gb230, 2, none⟩) (Kd.Q_far (p := ⟨gb230, 1, none⟩) (Kd.Q_far (p := ⟨gb230, 0, none⟩) (Kd.Q_mono HO225.out (fun k_ hk => (⟨hk, hk.2⟩ : _ ∧ k_ ≠ gb230))) (fun _ hk => hk.2) (.int .i64 t226)) (fun _ hk => hk.2) (.int .i64 t227)) (fun _ hk => hk.2) (.int .i64 t228)) (fun _ h_ => h_.1)))); (case side2 => exact (Kd.Q_reads' HO225.out).2.1); (case side3 => refine (Kd.Q_reads' (e := 25) (base := w.heap.size) (ok := fun k_ => (((k_ ≠ gb212 ∧ some k_ ≠ (.slice Ao31 t220.length co31 : Value).ownBlock) ∧ some k_ ≠ (.slice Ao61 t223.length co61 : Value).ownBlock) ∧ k_ ≠ gb230)) (n := x7_10.length) (c := co62) ?_).2.2; exact (by (with_reducible repeat (first | apply Kd.Q_alloc | apply Kd.Q_drewN | apply Kd.Q_drew)); exact (Kd.Q_mono (Kd.Q_far (p := ⟨gb230, 2, none⟩) (Kd.Q_far (p := ⟨gb230, 1, none⟩) (Kd.Q_far (p := ⟨gb230, 0, none⟩) (Kd.Q_mono HO_7.out (fun k_ hk => (⟨hk, hk.2⟩ : _ ∧ k_ ≠ gb230))) (fun _ hk => hk.2) (.int .i64 t226)) (fun _ hk => hk.2) (.int .i64 t227)) (fun _ hk => hk.2) (.int .i64 t228)) (fun _ h_ => h_.1)))); (case side4 => exact (Kd.Q_reads' HO_7.out).2.1); rintro e w' ⟨rfl, ⟨nd, rfl⟩⟩))
                              go_meet
                              case rel => exact ⟨_, (true), (by first | rfl | (simp; done) | (simp [*]; done)), H', ⟨by have := HK1.out; have := HJ1.out; have := HJ10.out; first | omega | exact Nat.le_refl _⟩, ⟨by (with_reducible repeat (first | apply Kd.R_alloc | apply Kd.R_drewN | apply Kd.R_drew)); exact Kd.R_mono (Kd.R_far (p := ⟨gb230, 2, none⟩) (Kd.R_far (p := ⟨gb230, 1, none⟩) (Kd.R_far (p := ⟨gb230, 0, none⟩) (Kd.R_mono HO222.out (fun k_ hk => (⟨hk, hk.2⟩ : _ ∧ k_ ≠ gb230))) (fun _ hk => hk.2) (.int .i64 t226)) (fun _ hk => hk.2) (.int .i64 t227)) (fun _ hk => hk.2) (.int .i64 t228)) (fun _ hk => ⟨hk.1.1.2, ⟨hk.1.1.1.2, hk.1.2⟩⟩)⟩, ⟨by (with_reducible repeat (first | apply Kd.Q_alloc | apply Kd.Q_drewN | apply Kd.Q_drew)); exact Kd.Q_mono (Kd.Q_far (p := ⟨gb230, 2, none⟩) (Kd.Q_far (p := ⟨gb230, 1, none⟩) (Kd.Q_far (p := ⟨gb230, 0, none⟩) (Kd.Q_mono HO225.out (fun k_ hk => (⟨hk, hk.2⟩ : _ ∧ k_ ≠ gb230))) (fun _ hk => hk.2) (.int .i64 t226)) (fun _ hk => hk.2) (.int .i64 t227)) (fun _ hk => hk.2) (.int .i64 t228)) (fun _ hk => ⟨hk.1.1.1.2, ⟨hk.1.1.2, hk.1.2⟩⟩)⟩, ⟨by (with_reducible repeat (first | refine blk_drewN ?_ _ | refine blk_drew ?_ | refine blk_alloc ?_ _)); refine blk_far ?_ NB211_230.out _; (with_reducible repeat (first | refine blk_drewN ?_ _ | refine blk_drew ?_ | refine blk_alloc ?_ _)); refine blk_far ?_ NB211_230.out _; (with_reducible repeat (first | refine blk_drewN ?_ _ | refine blk_drew ?_ | refine blk_alloc ?_ _)); refine blk_far ?_ NB211_230.out _; (with_reducible repeat (first | refine blk_drewN ?_ _ | refine blk_drew ?_ | refine blk_alloc ?_ _)); exact BK211.out⟩, ⟨by (with_reducible repeat (first | refine blk_drewN ?_ _ | refine blk_drew ?_ | refine blk_alloc ?_ _)); refine blk_far ?_ NB212_230.out _; (with_reducible repeat (first | refine blk_drewN ?_ _ | refine blk_drew ?_ | refine blk_alloc ?_ _)); refine blk_far ?_ NB212_230.out _; (with_reducible repeat (first | refine blk_drewN ?_ _ | refine blk_drew ?_ | refine blk_alloc ?_ _)); refine blk_far ?_ NB212_230.out _; (with_reducible repeat (first | refine blk_drewN ?_ _ | refine blk_drew ?_ | refine blk_alloc ?_ _)); exact BK212.out⟩, ⟨by (with_reducible repeat (first | refine blk_drewN ?_ _ | refine blk_drew ?_ | refine blk_alloc ?_ _)); refine blk_put (cs := #[.int .i64 t226, .int .i64 t227, .int .i64 0]) ?_ 2 _ rfl; (with_reducible repeat (first | refine blk_drewN ?_ _ | refine blk_drew ?_ | refine blk_alloc ?_ _)); refine blk_put (cs := #[.int .i64 t226, .int .i64 0, .int .i64 0]) ?_ 1 _ rfl; (with_reducible repeat (first | refine blk_drewN ?_ _ | refine blk_drew ?_ | refine blk_alloc ?_ _)); refine blk_put (cs := #[.int .i64 0, .int .i64 0, .int .i64 0]) ?_ 0 _ rfl; (with_reducible repeat (first | refine blk_drewN ?_ _ | refine blk_drew ?_ | refine blk_alloc ?_ _)); exact BK230.out⟩, ⟨by repeat (first | (with_reducible first | exact HB.out | apply below_alloc | apply pw_below_drewN | apply below_drew1 | refine below_set ?_ GE211.out | refine below_set ?_ GE212.out | refine below_set ?_ GE230.out) | exact HB.out)⟩⟩
                        · rw [if_neg c38] at H
                          have c38b0 : (t231 == x5_10) = false := beq_eq_false_iff_ne.mpr c38
                          have c38b1 : (t231 != x5_10) = true := bne_iff_ne.mpr c38
                          (first | rw [c38b0] | (simp only [i64_w, i32_w]; rw [c38b0]) | skip)
                          have H' := Aside0.mk H
                          clear H
                          go_wp2_with (first | ((with_reducible refine gate_callee (f := 10) rfl ?_); refine goesL_ (some 56) rfl rfl Try.func10 (by kernel_rfl) rfl #[.int .i64 t229] rfl (by (try simp only [List.map_toArray, List.map_cons, List.map_nil]); first | done | rfl | (simp only [List.length_drop, List.length_take]; rfl)) ?_; (with_reducible refine (gimballaw13_num.calls t229 t231 _ A37.out).mono ?_); rintro e w' ⟨rfl, ⟨nd, rfl⟩⟩; refine ⟨_, rfl, ?_⟩))
                          go_meet
                          case rel => exact ⟨_, (true), (by first | rfl | (simp; done) | (simp [*]; done)), H', ⟨by have := HK1.out; have := HJ1.out; have := HJ10.out; first | omega | exact Nat.le_refl _⟩, ⟨by (with_reducible repeat (first | apply Kd.R_alloc | apply Kd.R_drewN | apply Kd.R_drew)); exact Kd.R_mono (Kd.R_far (p := ⟨gb230, 2, none⟩) (Kd.R_far (p := ⟨gb230, 1, none⟩) (Kd.R_far (p := ⟨gb230, 0, none⟩) (Kd.R_mono HO222.out (fun k_ hk => (⟨hk, hk.2⟩ : _ ∧ k_ ≠ gb230))) (fun _ hk => hk.2) (.int .i64 t226)) (fun _ hk => hk.2) (.int .i64 t227)) (fun _ hk => hk.2) (.int .i64 t228)) (fun _ hk => ⟨hk.1.1.2, ⟨hk.1.1.1.2, hk.1.2⟩⟩)⟩, ⟨by (with_reducible repeat (first | apply Kd.Q_alloc | apply Kd.Q_drewN | apply Kd.Q_drew)); exact Kd.Q_mono (Kd.Q_far (p := ⟨gb230, 2, none⟩) (Kd.Q_far (p := ⟨gb230, 1, none⟩) (Kd.Q_far (p := ⟨gb230, 0, none⟩) (Kd.Q_mono HO225.out (fun k_ hk => (⟨hk, hk.2⟩ : _ ∧ k_ ≠ gb230))) (fun _ hk => hk.2) (.int .i64 t226)) (fun _ hk => hk.2) (.int .i64 t227)) (fun _ hk => hk.2) (.int .i64 t228)) (fun _ hk => ⟨hk.1.1.1.2, ⟨hk.1.1.2, hk.1.2⟩⟩)⟩, ⟨by (with_reducible repeat (first | refine blk_drewN ?_ _ | refine blk_drew ?_ | refine blk_alloc ?_ _)); refine blk_far ?_ NB211_230.out _; (with_reducible repeat (first | refine blk_drewN ?_ _ | refine blk_drew ?_ | refine blk_alloc ?_ _)); refine blk_far ?_ NB211_230.out _; (with_reducible repeat (first | refine blk_drewN ?_ _ | refine blk_drew ?_ | refine blk_alloc ?_ _)); refine blk_far ?_ NB211_230.out _; (with_reducible repeat (first | refine blk_drewN ?_ _ | refine blk_drew ?_ | refine blk_alloc ?_ _)); exact BK211.out⟩, ⟨by (with_reducible repeat (first | refine blk_drewN ?_ _ | refine blk_drew ?_ | refine blk_alloc ?_ _)); refine blk_far ?_ NB212_230.out _; (with_reducible repeat (first | refine blk_drewN ?_ _ | refine blk_drew ?_ | refine blk_alloc ?_ _)); refine blk_far ?_ NB212_230.out _; (with_reducible repeat (first | refine blk_drewN ?_ _ | refine blk_drew ?_ | refine blk_alloc ?_ _)); refine blk_far ?_ NB212_230.out _; (with_reducible repeat (first | refine blk_drewN ?_ _ | refine blk_drew ?_ | refine blk_alloc ?_ _)); exact BK212.out⟩, ⟨by (with_reducible repeat (first | refine blk_drewN ?_ _ | refine blk_drew ?_ | refine blk_alloc ?_ _)); refine blk_put (cs := #[.int .i64 t226, .int .i64 t227, .int .i64 0]) ?_ 2 _ rfl; (with_reducible repeat (first | refine blk_drewN ?_ _ | refine blk_drew ?_ | refine blk_alloc ?_ _)); refine blk_put (cs := #[.int .i64 t226, .int .i64 0, .int .i64 0]) ?_ 1 _ rfl; (with_reducible repeat (first | refine blk_drewN ?_ _ | refine blk_drew ?_ | refine blk_alloc ?_ _)); refine blk_put (cs := #[.int .i64 0, .int .i64 0, .int .i64 0]) ?_ 0 _ rfl; (with_reducible repeat (first | refine blk_drewN ?_ _ | refine blk_drew ?_ | refine blk_alloc ?_ _)); exact BK230.out⟩, ⟨by repeat (first | (with_reducible first | exact HB.out | apply below_alloc | apply pw_below_drewN | apply below_drew1 | refine below_set ?_ GE211.out | refine below_set ?_ GE212.out | refine below_set ?_ GE230.out) | exact HB.out)⟩⟩
                      case rest =>
                        clear HC26
                        try clear c1
                        try clear c2
                        try clear p2
                        try clear q2
                        try clear hx2
                        try clear c3
                        try clear c3b0
                        try clear c4
                        try clear c5
                        try clear c5b0
                        try clear c6
                        try clear c6b0
                        try clear c7
                        try clear c7b0
                        try clear c7b1
                        try clear c8
                        try clear c9
                        try clear c10
                        try clear c15
                        try clear c18
                        try clear c20
                        try clear c21
                        try clear p21
                        try clear q21
                        try clear hx21
                        try clear c27
                        try clear c34
                        try clear c35
                        try clear c38
                        try clear c38b0
                        try clear c38b1
                        try clear c39
                        try clear c39b0
                        try clear c40
                        try clear c41
                        try clear c43
                        try clear c46
                        try clear c48
                        try clear c49
                        try clear c51
                        try clear c56
                        try clear c57
                        try clear c59
                        try clear hcz13_0
                        try clear hcz13_1
                        try clear hcz13_2
                        try clear hcz13_3
                        try clear hcz13_4
                        try clear hcz16_0
                        try clear hcz16_1
                        try clear hcz16_2
                        try clear hcz16_3
                        try clear hcz16_4
                        try clear hcz21_0
                        try clear hcz21_1
                        try clear hcz21_2
                        try clear hcz21_3
                        try clear hcz21_4
                        try clear hcz23_0
                        try clear hcz23_1
                        try clear hcz23_2
                        try clear hcz28_0
                        try clear hcz28_1
                        try clear hcz28_2
                        try clear hcz28_3
                        try clear hcz28_4
                        try clear hcz30_0
                        try clear hcz30_1
                        try clear hcz30_2
                        try clear hcz30_3
                        try clear hcz30_4
                        try clear hcz36_0
                        try clear hcz36_1
                        try clear hcz36_2
                        try clear hcz42_0
                        try clear hcz42_1
                        try clear hcz42_2
                        try clear hcz44_0
                        try clear hcz44_1
                        try clear hcz44_2
                        try clear hcz50_0
                        try clear hcz50_1
                        try clear hcz50_2
                        try clear hcz52_0
                        try clear hcz52_1
                        try clear hcz52_2
                        try clear hcz55_0
                        try clear hcz55_1
                        try clear hcz55_2
                        try clear hcz55_3
                        try clear hcz55_4
                        try clear hcz58_0
                        try clear hcz58_1
                        try clear hcz58_2
                        try clear hcz60_0
                        try clear hcz60_1
                        try clear hcz60_2
                        try clear hcz9_0
                        try clear hcz9_1
                        try clear hcz9_2
                        try clear hcz9_3
                        try clear hcz9_4
                        try clear hfz13_0
                        try clear hfz13_1
                        try clear hfz13_2
                        try clear hfz13_3
                        try clear hfz13_4
                        try clear hfz16_0
                        try clear hfz16_1
                        try clear hfz16_2
                        try clear hfz16_3
                        try clear hfz16_4
                        try clear hfz21_0
                        try clear hfz21_1
                        try clear hfz21_2
                        try clear hfz21_3
                        try clear hfz21_4
                        try clear hfz23_0
                        try clear hfz23_1
                        try clear hfz23_2
                        try clear hfz28_0
                        try clear hfz28_1
                        try clear hfz28_2
                        try clear hfz28_3
                        try clear hfz28_4
                        try clear hfz30_0
                        try clear hfz30_1
                        try clear hfz30_2
                        try clear hfz30_3
                        try clear hfz30_4
                        try clear hfz36_0
                        try clear hfz36_1
                        try clear hfz36_2
                        try clear hfz42_0
                        try clear hfz42_1
                        try clear hfz42_2
                        try clear hfz44_0
                        try clear hfz44_1
                        try clear hfz44_2
                        try clear hfz50_0
                        try clear hfz50_1
                        try clear hfz50_2
                        try clear hfz52_0
                        try clear hfz52_1
                        try clear hfz52_2
                        try clear hfz55_0
                        try clear hfz55_1
                        try clear hfz55_2
                        try clear hfz55_3
                        try clear hfz55_4
                        try clear hfz58_0
                        try clear hfz58_1
                        try clear hfz58_2
                        try clear hfz60_0
                        try clear hfz60_1
                        try clear hfz60_2
                        try clear hfz9_0
                        try clear hfz9_1
                        try clear hfz9_2
                        try clear hfz9_3
                        try clear hfz9_4
                        try clear hx210_0
                        try clear hx210_1
                        try clear hx210_2
                        try clear hx210_3
                        try clear hx210_4
                        try clear p2
                        try clear p21
                        try clear p210
                        try clear q2
                        try clear q21
                        try clear q210
                        obtain ⟨kq, x76_25, rfl, HA, HJ25, HO_8, HO_9, BK211, BK212, BK230, HB⟩ := hcut
                        cases kq with
                        | zero => exact absurd HA.out (by simp [gimballaw13_MedianExact.j3])
                        | succ kj25 =>
                          have H := HA.out
                          clear HA
                          simp only [gimballaw13_MedianExact.j3] at H
                          by_cases c63 : x76_25 = true
                          · subst c63
                            have H1 : (some false) = some r := by rw [if_pos rfl] at H; exact H
                            clear H
                            have H := H1
                            clear H1
                            exact absurd ((Option.some.inj H).trans hrt_.out) (by simp)
                          · replace c63 := Bool.eq_false_iff.mpr c63
                            subst c63
                            have H1 : ((gimballaw0_Vecs.f kj25 t223).bind fun _ => ((gimbalref0_EqVecs.f kj25 t220 ((rd_T27 l0 x3_1).f0)).bind fun t234 => (if t234 = true then (gimballaw13_MedianExact.l0 kj25 l0 (wrap64 (x3_1 + 1))) else (some false)))) = some r := by rw [if_neg (show ¬ (false = true) by decide)] at H; exact H
                            clear H
                            have H := H1
                            clear H1
                            replace H := Option.bind_eq_some_iff.mp H
                            obtain ⟨_, A640, H⟩ := H
                            replace H : ((gimbalref0_EqVecs.f kj25 t220 ((rd_T27 l0 x3_1).f0)).bind fun t234 => (if t234 = true then (gimballaw13_MedianExact.l0 kj25 l0 (wrap64 (x3_1 + 1))) else (some false))) = some r := H
                            have A64 := Aside0.mk A640
                            clear A640
                            replace H := Option.bind_eq_some_iff.mp H
                            obtain ⟨t234, A650, H⟩ := H
                            replace H : (if t234 = true then (gimballaw13_MedianExact.l0 kj25 l0 (wrap64 (x3_1 + 1))) else (some false)) = some r := H
                            have A65 := Aside0.mk A650
                            clear A650
                            by_cases c66 : t234 = true
                            · subst c66
                              have H1 : (gimballaw13_MedianExact.l0 kj25 l0 (wrap64 (x3_1 + 1))) = some r := by rw [if_pos rfl] at H; exact H
                              clear H
                              have H := H1
                              clear H1
                              have H' := Aside0.mk H
                              clear H
                              obtain ⟨Ao67, co67, eo67, _⟩ := Kd.Q_slice HO_9.out
                              subst eo67
                              go_wp2_with (first | ((with_reducible refine gate_callee (f := 12) rfl ?_); refine goesL_ (some 78) rfl rfl Try.func12 (by kernel_rfl) rfl #[.slice Ao67 t223.length co67] rfl (by (try simp only [List.map_toArray, List.map_cons, List.map_nil]); first | done | rfl | (simp only [List.length_drop, List.length_take]; rfl)) ?_; (with_reducible refine (gimballaw0_Vecs.calls kj25 (fun k_ => some k_ = (.slice Ao67 t223.length co67 : Value).ownBlock) (.slice Ao67 t223.length co67) t223  w _ ?side1 ?side2 A64.out).mono ?_); (case side1 => repeat (first | (with_reducible first | exact HB.out | apply below_alloc | apply pw_below_drewN | apply below_drew1 | refine below_set ?_ GE211.out | refine below_set ?_ GE212.out | refine below_set ?_ GE230.out) | exact HB.out)); (case side2 => exact Kd.Q_tight rfl HO_9.out); rintro e w68 ⟨rfl, hb, hkp⟩; refine ⟨_, rfl, ?_⟩; have n0_ := Aside0.mk (Kd.R_mono (ok' := fun k_ => k_ ≠ gb212 ∧ k_ ≠ gb230) (Kd.R_keptB (HO_8.out) hkp (fun k_ hk_ hs_ => (hk_.1) hs_)) (fun k_ hk_ => ⟨hk_.1.2.1, hk_.1.2.2⟩)); have n1_ := Aside0.mk (blk_kept (by (with_reducible repeat (first | refine blk_drewN ?_ _ | refine blk_drew ?_ | refine blk_alloc ?_ _)); exact BK211.out) hkp (fun hs_ => (fun e_ => (Kd.Q_ne HO_9.out BK211.out (by decide)) e_) hs_)); have n2_ := Aside0.mk (blk_kept (by (with_reducible repeat (first | refine blk_drewN ?_ _ | refine blk_drew ?_ | refine blk_alloc ?_ _)); exact BK212.out) hkp (fun hs_ => (fun e_ => (Kd.Q_away HO_9.out (fun _ hk => hk.2.1)) e_) hs_)); have n3_ := Aside0.mk (blk_kept (by (with_reducible repeat (first | refine blk_drewN ?_ _ | refine blk_drew ?_ | refine blk_alloc ?_ _)); exact BK230.out) hkp (fun hs_ => (fun e_ => (Kd.Q_away HO_9.out (fun _ hk => hk.2.2)) e_) hs_)); have n4_ := Aside0.mk (hb); clear HO_8; clear BK211; clear BK212; clear BK230; clear HB; clear HO_9; have HO_8 := n0_; have BK211 := n1_; have BK212 := n2_; have BK230 := n3_; have HB := n4_; clear n0_ n1_ n2_ n3_ n4_; (try clear hb); (try clear hkp); have hnb69 := NB211_212.out; have hnc69 := NB212_211.out; have hnb70 := NB211_230.out; have hnc70 := NB230_211.out; have hcz71_0 : w68.cell? ⟨gb211, 0, none⟩ = some (.slice A210_0 ((rd_T27 l0 x3_1).f0).length c210_0) := (blk_cell BK211.out 0).trans rfl; have hcz71_1 : w68.cell? ⟨gb211, 1, none⟩ = some (.int .i64 ((rd_T27 l0 x3_1).f1)) := (blk_cell BK211.out 1).trans rfl; have hcz71_2 : w68.cell? ⟨gb211, 2, none⟩ = some (.int .i64 ((rd_T27 l0 x3_1).f2.f0)) := (blk_cell BK211.out 2).trans rfl; have hcz71_3 : w68.cell? ⟨gb211, 3, none⟩ = some (.int .i64 ((rd_T27 l0 x3_1).f2.f1)) := (blk_cell BK211.out 3).trans rfl; have hcz71_4 : w68.cell? ⟨gb211, 4, none⟩ = some (.int .i64 ((rd_T27 l0 x3_1).f2.f2)) := (blk_cell BK211.out 4).trans rfl; have hfz71_0 := blk_frozen BK211.out 0; have hfz71_1 := blk_frozen BK211.out 1; have hfz71_2 := blk_frozen BK211.out 2; have hfz71_3 := blk_frozen BK211.out 3; have hfz71_4 := blk_frozen BK211.out 4) | ((with_reducible refine gate_callee (f := 11) rfl ?_); refine goesL_ (some 82) rfl rfl Try.func11 (by kernel_rfl) rfl #[.slice Ao31 t220.length co31, .slice A210_0 ((rd_T27 l0 x3_1).f0).length c210_0] rfl (by (try simp only [List.map_toArray, List.map_cons, List.map_nil]); first | done | rfl | (simp only [List.length_drop, List.length_take]; rfl)) ?_; (with_reducible refine (gimbalref0_EqVecs.calls kj25 _ _ t220 _ _ ((rd_T27 l0 x3_1).f0) true _ ?side1 ?side2 ?side3 ?side4 A65.out).mono ?_); (case side1 => repeat (first | exact (Kd.R_reads' HO_8.out).2.2 | (with_reducible refine Kd.C_alloc ?_ _) | (with_reducible refine Kd.C_drewN ?_ _) | (with_reducible refine Kd.C_drew ?_))); (case side2 => exact (Kd.R_reads' HO_8.out).2.1); (case side3 => repeat (first | exact (Kd.C_below HR210_0.out HB.out) | (with_reducible refine Kd.C_alloc ?_ _) | (with_reducible refine Kd.C_drewN ?_ _) | (with_reducible refine Kd.C_drew ?_))); (case side4 => exact HC210_0.out); rintro e w' ⟨rfl, ⟨nd, rfl⟩⟩; refine ⟨_, rfl, ?_⟩))
                              go_roundg kj25
                              case measure => have := HK1.out; have := HJ1.out; have := HJ10.out; have := HJ25.out; omega
                              case rel => exact ⟨(wrap64 (x3_1 + 1)), (by first | rfl | (simp; done) | (simp [*]; done)), H', ⟨by have := HK1.out; have := HJ1.out; have := HJ10.out; have := HJ25.out; omega⟩, ⟨by repeat (first | (with_reducible first | exact HB.out | apply below_alloc | apply pw_below_drewN | apply below_drew1 | refine below_set ?_ GE211.out | refine below_set ?_ GE212.out | refine below_set ?_ GE230.out) | exact HB.out)⟩⟩
                            · replace c66 := Bool.eq_false_iff.mpr c66
                              subst c66
                              have H1 : (some false) = some r := by rw [if_neg (show ¬ (false = true) by decide)] at H; exact H
                              clear H
                              have H := H1
                              clear H1
                              exact absurd ((Option.some.inj H).trans hrt_.out) (by simp)
              · rw [if_neg c6] at H
                exact absurd H (by simp)
            · rw [if_neg c5] at H
              exact absurd H (by simp)
          · replace c4 := Bool.eq_false_iff.mpr c4
            subst c4
            have H1 : ((gimballaw13_wakes.f kj1).bind fun t209 => (some t209)) = some r := by rw [if_neg (show ¬ (false = true) by decide)] at H; exact H
            clear H
            have H := H1
            clear H1
            replace H := Option.bind_eq_some_iff.mp H
            obtain ⟨t209, A720, H⟩ := H
            replace H : (some t209) = some r := H
            have A72 := Aside0.mk A720
            clear A720
            obtain rfl := Option.some.inj H
            go_wp2_with (first | ((with_reducible refine gate_callee (f := 13) rfl ?_); refine goesL_ (some 84) rfl rfl Try.func13 (by kernel_rfl) rfl #[] rfl (by (try simp only [List.map_toArray, List.map_cons, List.map_nil]); first | done | rfl | (simp only [List.length_drop, List.length_take]; rfl)) ?_; (with_reducible refine (gimballaw13_wakes.calls kj1  t209 _ A72.out).mono ?_); rintro e w73 ⟨rfl, hb⟩; refine ⟨_, rfl, ?_⟩; have n0_ := Aside0.mk (below_step (by repeat (first | (with_reducible first | exact HB.out | apply below_alloc | apply pw_below_drewN | apply below_drew1) | exact HB.out)) hb); clear HB; have HB := n0_; clear n0_; (try clear hb); (try clear hb2); (try clear hk); (try clear hi)))
            go_ret
            exact ⟨by first | rfl | (simp [errW_none, errW_some] <;> rfl) | (simp [*, errW_none, errW_some] <;> rfl), by repeat (first | (with_reducible first | exact HB.out | apply below_alloc | apply pw_below_drewN | apply below_drew1) | exact HB.out)⟩

end Go.Proofs.Ytbicnidbffibbaa.PMedianExact
