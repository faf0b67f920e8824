import Derived.Test.YtbleapgklbohcaaCut
import Derived.Test.YtbleapgklbohcaaPLogExactx0
namespace Go.Proofs.Ytbleapgklbohcaa.PLogExact
open Go.RowKit Go.Proofs.YtbleapgklbohcaaW.PrintWords Go.Proofs.YtbleapgklbohcaaW.PrintLast Go.Proofs.YtbleapgklbohcaaW.PrintMore
attribute [local go_sem] max2_int min2_int max_two min_two max_three min_three max_four min_four   -- for this text's walks alone
set_option linter.unusedVariables false
set_option linter.unusedSimpArgs false

/-! ### gimbalref0_EqWords: function 18 -/
def gimbalref0_EqWords.l0 : Nat → List Int → List Int → Int → Option (Bool)
 | 0, _, _, _ => none
 | k + 1, x0, x1, x5 => if x5 < (x0.length : Int) then (if 0 ≤ x5 then (if x5 < (x1.length : Int) then (if (rd x0 x5) = (rd x1 x5) then (gimbalref0_EqWords.l0 k x0 x1 (wrap64 (x5 + 1))) else (some false)) else (none)) else (none)) else (some true)
def gimbalref0_EqWords.f (k : Nat) (l0 : List Int) (l1 : List Int) : Option (Bool) := if (l0.length : Int) = (l1.length : Int) then (gimbalref0_EqWords.l0 k l0 l1 0) else (some false)
theorem gimbalref0_EqWords.mono_l : ∀ k, (∀ y0 y1 y2, LeO (gimbalref0_EqWords.l0 k y0 y1 y2) (gimbalref0_EqWords.l0 (k + 1) y0 y1 y2))
 | 0 => fun _ _ _ r h => by simp [gimbalref0_EqWords.l0] at h
 | k + 1 => by
  have ih0 := gimbalref0_EqWords.mono_l k
  ·intro y0 y1 y2
   unfold gimbalref0_EqWords.l0
   repeat' first
   | (with_reducible exact ih0 _ _ _)
   | (with_reducible exact LeO.refl _)
   | (with_reducible exact LeO.none _)
   | (with_reducible refine LeO.ite ?_ ?_)
   | (with_reducible refine LeO.bind ?_ (fun _ => ?_))
   | exact ih0 _ _ _
   | exact LeO.none _
   | refine LeO.ite ?_ ?_
   | refine LeO.bind ?_ (fun _ => ?_)
theorem gimbalref0_EqWords.mono : ∀ a0 a1 k, LeO (gimbalref0_EqWords.f k a0 a1) (gimbalref0_EqWords.f (k + 1) a0 a1) := by
 intro a0 a1 k
 have ih0 := gimbalref0_EqWords.mono_l k
 unfold gimbalref0_EqWords.f
 repeat' first
   | (with_reducible exact ih0 _ _ _)
   | (with_reducible exact LeO.refl _)
   | (with_reducible exact LeO.none _)
   | (with_reducible refine LeO.ite ?_ ?_)
   | (with_reducible refine LeO.bind ?_ (fun _ => ?_))
   | exact ih0 _ _ _
   | exact LeO.none _
   | refine LeO.ite ?_ ?_
   | refine LeO.bind ?_ (fun _ => ?_)
set_option maxHeartbeats 8000000 in
set_option maxRecDepth 100000 in
theorem gimbalref0_EqWords.calls (k : Nat) (A0 : Option Addr) (c0 : Nat) (l0 : List Int) (A1 : Option Addr) (c1 : Nat) (l1 : List Int) (r : Bool) (w : World) (hr0 : Kd.C (Kd.int .u32) w A0 l0.length l0) (hc0 : l0.length ≤ c0) (hr1 : Kd.C (Kd.int .u32) w A1 l1.length l1) (hc1 : l1.length ≤ c1) (h : gimbalref0_EqWords.f k l0 l1 = some r) :
  Calls Try.prog 18 #[.slice A0 l0.length c0, .slice A1 l1.length c1] w fun e w' => e = .returned (.bool r) ∧ Drawn0 w w' := by
 have HR0 := Aside0.mk hr0
 have HC0 := Aside0.mk hc0
 clear hr0 hc0
 have HR1 := Aside0.mk hr1
 have HC1 := Aside0.mk hc1
 clear hr1 hc1
 have H : (if (l0.length : Int) = (l1.length : Int) then (gimbalref0_EqWords.l0 k l0 l1 0) else (some false)) = some r := h
 clear h
 by_cases c3 : (l0.length : Int) = (l1.length : Int)
 ·rw [if_pos c3] at H
  have c3b0 : ((l0.length : Int) == (l1.length : Int)) = true := beq_iff_eq.mpr c3
  have c3b1 : ((l0.length : Int) != (l1.length : Int)) = false := bne_eq_false_iff_eq.mpr c3
  have c3b2 : (l0.length == l1.length) = true := by first | simpa using c3 | (simp at c3 ⊢; omega)
  clear c3
  have H' := Aside0.mk H
  clear H
  go_enter Try.func18, Try.ntmps18
  go_wp2
  repeat (go_quiet (fail); try go_wp2)
  refine Cu.wp_loop (Cu.f :: Cu.f :: Cu.f :: Cu.f :: Cu.t :: Cu.t :: Cu.f :: Cu.f :: Cu.f :: Cu.f :: Cu.f :: Cu.t :: Cu.t :: Cu.t :: Cu.t :: Cu.t :: Cu.t :: Cu.t :: Cu.t :: Cu.t :: Cu.t :: Cu.t :: Cu.t :: Cu.t :: Cu.t :: Cu.t :: []) 17 (fun kq us_ w' => ∃ (x5_1 : Int), (Cu.nth us_ 1) = .int .i64 x5_1 ∧ Aside0 (gimbalref0_EqWords.l0 kq l0 l1 x5_1 = some r) ∧ Aside0 (kq ≤ k) ∧ Drawn0 w w') k ?_ (by kernel_rfl) (by kernel_rfl) ?_
  · try dsimp only [Cu.pick, Cu.nth]
    exact ⟨(0), Sq.e, H', ⟨Nat.le_refl _⟩, by repeat (first | exact Drawn0.refl _ | apply Drawn0.step)⟩
  ·
   intro gk wr u4 u5 u11 u12 u13 u14 u15 u16 u17 u18 u19 u20 u21 u22 u23 u24 u25
   try dsimp only [Cu.over, Cu.nth]
   intro hrel _ _ _ _
   clear H'; (try clear c3b0); (try clear c3b1); (try clear c3b2)
   obtain ⟨x5_1, rfl, HA, HK1, ⟨m1, rfl⟩⟩ := hrel
   cases gk with
   | zero => exact absurd HA.out (by simp [gimbalref0_EqWords.l0])
   | succ k1 =>
    have H := HA.out
    clear HA
    simp only [gimbalref0_EqWords.l0] at H
    by_cases c4 : x5_1 < (l0.length : Int)
    ·rw [if_pos c4] at H
     have c4b0 : decide (x5_1 < (l0.length : Int)) = true := decide_eq_true c4
     clear c4
     by_cases c5 : 0 ≤ x5_1
     ·rw [if_pos c5] at H
      have c5b0 : decide (0 ≤ x5_1) = true := decide_eq_true c5
      clear c5
      by_cases c6 : x5_1 < (l1.length : Int)
      ·rw [if_pos c6] at H
       have c6b0 : decide (x5_1 < (l1.length : Int)) = true := decide_eq_true c6
       clear c6
       by_cases c7 : (rd l0 x5_1) = (rd l1 x5_1)
       ·rw [if_pos c7] at H
        have c7b0 : ((rd l0 x5_1) == (rd l1 x5_1)) = true := beq_iff_eq.mpr c7
        have c7b1 : ((rd l0 x5_1) != (rd l1 x5_1)) = false := bne_eq_false_iff_eq.mpr c7
        clear c7
        have H' := Aside0.mk H
        clear H
        have p162 : 0 ≤ (x5_1 : Int) := of_decide_eq_true (by first | (with_reducible assumption) | assumption)
        have q162 : x5_1 < (l0.length : Int) := of_decide_eq_true (by first | (with_reducible assumption) | assumption)
        obtain ⟨ad162, e162, hx162_0⟩ := Kd.at_int HR0.out x5_1 p162 q162
        cases e162
        replace p162 := eq_true p162
        replace q162 := eq_true q162
        have p163 : 0 ≤ (x5_1 : Int) := of_decide_eq_true (by first | (with_reducible assumption) | assumption)
        have q163 : x5_1 < (l1.length : Int) := of_decide_eq_true (by first | (with_reducible assumption) | assumption)
        obtain ⟨ad163, e163, hx163_0⟩ := Kd.at_int HR1.out x5_1 p163 q163
        cases e163
        replace p163 := eq_true p163
        replace q163 := eq_true q163
        go_wp2
        repeat (go_quiet (fail); try go_wp2)
        refine Cu.handed k1 (by have := HK1.out; omega) (by assumption) ?_ (by kernel_rfl) (by kernel_rfl)
        try dsimp only [Cu.pick, Cu.nth]
        exact ⟨(wrap64 (x5_1 + 1)), Sq.e, H', ⟨by have := HK1.out; omega⟩, by repeat (first | exact Drawn0.refl _ | apply Drawn0.step)⟩
       ·rw [if_neg c7] at H
        have c7b0 : ((rd l0 x5_1) == (rd l1 x5_1)) = false := beq_eq_false_iff_ne.mpr c7
        have c7b1 : ((rd l0 x5_1) != (rd l1 x5_1)) = true := bne_iff_ne.mpr c7
        obtain rfl := Option.some.inj H
        have p162 : 0 ≤ (x5_1 : Int) := of_decide_eq_true (by first | (with_reducible assumption) | assumption)
        have q162 : x5_1 < (l0.length : Int) := of_decide_eq_true (by first | (with_reducible assumption) | assumption)
        obtain ⟨ad162, e162, hx162_0⟩ := Kd.at_int HR0.out x5_1 p162 q162
        cases e162
        replace p162 := eq_true p162
        replace q162 := eq_true q162
        have p163 : 0 ≤ (x5_1 : Int) := of_decide_eq_true (by first | (with_reducible assumption) | assumption)
        have q163 : x5_1 < (l1.length : Int) := of_decide_eq_true (by first | (with_reducible assumption) | assumption)
        obtain ⟨ad163, e163, hx163_0⟩ := Kd.at_int HR1.out x5_1 p163 q163
        cases e163
        replace p163 := eq_true p163
        replace q163 := eq_true q163
        go_wp2
        repeat (go_quiet (fail); try go_wp2)
        go_ret
        exact ⟨by first | rfl | (simp; done) | (simp [*]; done), by repeat (first | exact Drawn0.refl _ | apply Drawn0.step)⟩
      ·rw [if_neg c6] at H
       exact absurd H (by simp)
     ·rw [if_neg c5] at H
      exact absurd H (by simp)
    ·rw [if_neg c4] at H
     have c4b0 : decide (x5_1 < (l0.length : Int)) = false := decide_eq_false c4
     clear c4
     obtain rfl := Option.some.inj H
     go_wp2
     repeat (go_quiet (fail); try go_wp2)
     go_ret
     exact ⟨by first | rfl | (simp; done) | (simp [*]; done), by repeat (first | exact Drawn0.refl _ | apply Drawn0.step)⟩
 ·rw [if_neg c3] at H
  have c3b0 : ((l0.length : Int) == (l1.length : Int)) = false := beq_eq_false_iff_ne.mpr c3
  have c3b1 : ((l0.length : Int) != (l1.length : Int)) = true := bne_iff_ne.mpr c3
  have c3b2 : (l0.length == l1.length) = false := by first | simpa using c3 | (simp at c3 ⊢; omega)
  obtain rfl := Option.some.inj H
  go_enter Try.func18, Try.ntmps18
  go_wp2
  repeat (go_quiet (fail); try go_wp2)
  go_ret
  exact ⟨by first | rfl | (simp; done) | (simp [*]; done), by repeat (first | exact Drawn0.refl _ | apply Drawn0.step)⟩

/-! ### gimbalref29_Gen: function 19 -/
def gimbalref29_Gen.f (a0 : Int) : Option (Int × Bool) := if (a0 / 16777216) = 71 then (some (wrap64 (Go.bits .and .u32 a0 16777215), true)) else (some (0, false))
set_option maxHeartbeats 8000000 in
set_option maxRecDepth 100000 in
theorem gimbalref29_Gen.calls (a0 : Int) (r1 : Int) (r2 : Bool) (w : World) (h : gimbalref29_Gen.f a0 = some (r1, r2)) :
  Calls Try.prog 19 #[.int .u32 a0] w fun e w' => e = .returned (.tuple #[.int .i64 r1, .bool r2]) ∧ Drawn0 w w' := by
 have H : (if (a0 / 16777216) = 71 then (some (wrap64 (Go.bits .and .u32 a0 16777215), true)) else (some (0, false))) = some (r1, r2) := h
 clear h
 by_cases c2 : (a0 / 16777216) = 71
 ·rw [if_pos c2] at H
  have c2b0 : ((a0 / 16777216) == 71) = true := beq_iff_eq.mpr c2
  have c2b1 : ((a0 / 16777216) != 71) = false := bne_eq_false_iff_eq.mpr c2
  clear c2
  simp only [Option.some.injEq, Prod.mk.injEq] at H
  obtain ⟨rfl, rfl⟩ := H
  go_enter Try.func19, Try.ntmps19
  go_wp2
  go_ret2
  exact ⟨by first | rfl | (simp; done) | (simp [*]; done), by repeat (first | exact Drawn0.refl _ | apply Drawn0.step)⟩
 ·rw [if_neg c2] at H
  have c2b0 : ((a0 / 16777216) == 71) = false := beq_eq_false_iff_ne.mpr c2
  have c2b1 : ((a0 / 16777216) != 71) = true := bne_iff_ne.mpr c2
  simp only [Option.some.injEq, Prod.mk.injEq] at H
  obtain ⟨rfl, rfl⟩ := H
  go_enter Try.func19, Try.ntmps19
  go_wp2
  go_ret2
  exact ⟨by first | rfl | (simp; done) | (simp [*]; done), by repeat (first | exact Drawn0.refl _ | apply Drawn0.step)⟩

/-! ### gimbalref29_size: function 30 -/
def gimbalref29_size.f (a0 : Int) : Option (Int) := if (a0 / 16777216) = 82 then (if (wrap64 (Go.bits .and .u32 (a0 / 256) 65535)) ≥ 16 then (some 0) else (if (wrap64 (Go.bits .and .u32 a0 255)) > 24 then (some 0) else (some (wrap64 (2 + (wrap64 (Int.tdiv (wrap64 ((wrap64 (Go.bits .and .u32 a0 255)) + 3)) 4))))))) else (some 0)
set_option maxHeartbeats 8000000 in
set_option maxRecDepth 100000 in
theorem gimbalref29_size.calls (a0 : Int) (r : Int) (w : World) (h : gimbalref29_size.f a0 = some r) :
  Calls Try.prog 30 #[.int .u32 a0] w fun e w' => e = .returned (.int .i64 r) ∧ Drawn0 w w' := by
 have H : (if (a0 / 16777216) = 82 then (if (wrap64 (Go.bits .and .u32 (a0 / 256) 65535)) ≥ 16 then (some 0) else (if (wrap64 (Go.bits .and .u32 a0 255)) > 24 then (some 0) else (some (wrap64 (2 + (wrap64 (Int.tdiv (wrap64 ((wrap64 (Go.bits .and .u32 a0 255)) + 3)) 4))))))) else (some 0)) = some r := h
 clear h
 by_cases c2 : (a0 / 16777216) = 82
 ·rw [if_pos c2] at H
  have c2b0 : ((a0 / 16777216) == 82) = true := beq_iff_eq.mpr c2
  have c2b1 : ((a0 / 16777216) != 82) = false := bne_eq_false_iff_eq.mpr c2
  clear c2
  by_cases c3 : (wrap64 (Go.bits .and .u32 (a0 / 256) 65535)) ≥ 16
  ·rw [if_pos c3] at H
   have c3b0 : decide (16 ≤ (wrap64 (Go.bits .and .u32 (a0 / 256) 65535))) = true := decide_eq_true c3
   clear c3
   obtain rfl := Option.some.inj H
   go_enter Try.func30, Try.ntmps30
   go_wp2
   go_ret
   exact ⟨by first | rfl | (simp; done) | (simp [*]; done), by repeat (first | exact Drawn0.refl _ | apply Drawn0.step)⟩
  ·rw [if_neg c3] at H
   have c3b0 : decide (16 ≤ (wrap64 (Go.bits .and .u32 (a0 / 256) 65535))) = false := decide_eq_false c3
   clear c3
   by_cases c4 : (wrap64 (Go.bits .and .u32 a0 255)) > 24
   ·rw [if_pos c4] at H
    have c4b0 : decide (24 < (wrap64 (Go.bits .and .u32 a0 255))) = true := decide_eq_true c4
    clear c4
    obtain rfl := Option.some.inj H
    go_enter Try.func30, Try.ntmps30
    go_wp2
    go_ret
    exact ⟨by first | rfl | (simp; done) | (simp [*]; done), by repeat (first | exact Drawn0.refl _ | apply Drawn0.step)⟩
   ·rw [if_neg c4] at H
    have c4b0 : decide (24 < (wrap64 (Go.bits .and .u32 a0 255))) = false := decide_eq_false c4
    clear c4
    obtain rfl := Option.some.inj H
    go_enter Try.func30, Try.ntmps30
    go_wp2
    go_ret
    exact ⟨by first | rfl | (simp; done) | (simp [*]; done), by repeat (first | exact Drawn0.refl _ | apply Drawn0.step)⟩
 ·rw [if_neg c2] at H
  have c2b0 : ((a0 / 16777216) == 82) = false := beq_eq_false_iff_ne.mpr c2
  have c2b1 : ((a0 / 16777216) != 82) = true := bne_iff_ne.mpr c2
  obtain rfl := Option.some.inj H
  go_enter Try.func30, Try.ntmps30
  go_wp2
  go_ret
  exact ⟨by first | rfl | (simp; done) | (simp [*]; done), by repeat (first | exact Drawn0.refl _ | apply Drawn0.step)⟩

end Go.Proofs.Ytbleapgklbohcaa.PLogExact
