import Derived.Test.YtnlmbejkemkkoaaPDrvSamplesx0
import Derived.Test.YtnlmbejkemkkoaaPDrvSamplesx1
import Derived.Test.YtnlmbejkemkkoaaPDrvSamplesx2
import Derived.Test.YtnlmbejkemkkoaaPDrvSamplesx3
import Derived.Test.YtnlmbejkemkkoaaPDrvSamplesx5
namespace Go.Proofs.Ytnlmbejkemkkoaa.PDrvSamples
open Go.RowKit Go.Proofs.YtnlmbejkemkkoaaW.PrintWords Go.Proofs.YtnlmbejkemkkoaaW.PrintLast Go.Proofs.YtnlmbejkemkkoaaW.PrintMore
attribute [local go_sem] max2_int min2_int max_two min_two max_three min_three max_four min_four   -- for this text's walks alone
set_option linter.unusedVariables false
set_option linter.unusedSimpArgs false

attribute [local go_sem high] eqA55
/-! ### gimbalref0_EqRaws: function 21 -/
def gimbalref0_EqRaws.l0 : Nat → List (S55) → List (S55) → Int → Option (Bool)
  | 0, _, _, _ => none
  | k + 1, x0, x1, x5 => if x5 < (x0.length : Int) then (if 0 ≤ x5 then (if x5 < (x1.length : Int) then (if (!(((rd_T55 x0 x5).f0) == ((rd_T55 x1 x5).f0)) || (!(((rd_T55 x0 x5).f1) == ((rd_T55 x1 x5).f1)) || (!(((rd_T55 x0 x5).f2) == ((rd_T55 x1 x5).f2)) || (!(((rd_T55 x0 x5).f3) == ((rd_T55 x1 x5).f3)))))) = true then (some false) else (gimbalref0_EqRaws.l0 k x0 x1 (wrap64 (x5 + 1)))) else (none)) else (none)) else (some true)
def gimbalref0_EqRaws.f (k : Nat) (l0 : List (S55)) (l1 : List (S55)) : Option (Bool) := if (l0.length : Int) = (l1.length : Int) then (gimbalref0_EqRaws.l0 k l0 l1 0) else (some false)
theorem gimbalref0_EqRaws.mono_l : ∀ k, (∀ y0 y1 y2, LeO (gimbalref0_EqRaws.l0 k y0 y1 y2) (gimbalref0_EqRaws.l0 (k + 1) y0 y1 y2))
  | 0 => fun _ _ _ r h => by simp [gimbalref0_EqRaws.l0] at h
  | k + 1 => by
    have ih0 := gimbalref0_EqRaws.mono_l k
    · intro y0 y1 y2
      unfold gimbalref0_EqRaws.l0
      repeat' first
      | (with_reducible exact ih0 _ _ _)
      | (with_reducible exact LeO.refl _)
      | (with_reducible exact LeO.none _)
      | (with_reducible refine LeO.ite ?_ ?_)
      | (with_reducible refine LeO.bind ?_ (fun _ => ?_))
      | exact ih0 _ _ _
      | exact LeO.none _
      | refine LeO.ite ?_ ?_
      | refine LeO.bind ?_ (fun _ => ?_)
theorem gimbalref0_EqRaws.mono : ∀ a0 a1 k, LeO (gimbalref0_EqRaws.f k a0 a1) (gimbalref0_EqRaws.f (k + 1) a0 a1) := by
  intro a0 a1 k
  have ih0 := gimbalref0_EqRaws.mono_l k
  unfold gimbalref0_EqRaws.f
  repeat' first
      | (with_reducible exact ih0 _ _ _)
      | (with_reducible exact LeO.refl _)
      | (with_reducible exact LeO.none _)
      | (with_reducible refine LeO.ite ?_ ?_)
      | (with_reducible refine LeO.bind ?_ (fun _ => ?_))
      | exact ih0 _ _ _
      | exact LeO.none _
      | refine LeO.ite ?_ ?_
      | refine LeO.bind ?_ (fun _ => ?_)
set_option maxHeartbeats 8000000 in
set_option maxRecDepth 100000 in
theorem gimbalref0_EqRaws.calls (k : Nat) (A0 : Option Addr) (c0 : Nat) (l0 : List (S55)) (A1 : Option Addr) (c1 : Nat) (l1 : List (S55)) (r : Bool) (w : World) (hr0 : Kd.C k55 w A0 l0.length l0) (hc0 : l0.length ≤ c0) (hr1 : Kd.C k55 w A1 l1.length l1) (hc1 : l1.length ≤ c1) (h : gimbalref0_EqRaws.f k l0 l1 = some r) :
    Calls Try.prog 21 #[.slice A0 l0.length c0, .slice A1 l1.length c1] w fun e w' => e = .returned (.bool r) ∧ Drawn0 w w' := by
  have hu55 := Try.underlying55
  have HR0 := Aside0.mk hr0
  have HC0 := Aside0.mk hc0
  clear hr0 hc0
  have HR1 := Aside0.mk hr1
  have HC1 := Aside0.mk hc1
  clear hr1 hc1
  have H : (if (l0.length : Int) = (l1.length : Int) then (gimbalref0_EqRaws.l0 k l0 l1 0) else (some false)) = some r := h
  clear h
  by_cases c3 : (l0.length : Int) = (l1.length : Int)
  · rw [if_pos c3] at H
    have c3b0 : ((l0.length : Int) == (l1.length : Int)) = true := beq_iff_eq.mpr c3
    have c3b1 : ((l0.length : Int) != (l1.length : Int)) = false := bne_eq_false_iff_eq.mpr c3
    have c3b2 : (l0.length == l1.length) = true := by first | simpa using c3 | (simp at c3 ⊢; omega)
    clear c3
    have H' := Aside0.mk H
    clear H
    go_enter Try.func21, Try.ntmps21
    go_wp2
    repeat (go_quiet (fail); try go_wp2)
    go_loopg [5] k (fun kq v5 w' => ∃ (x5_1 : Int), v5 = .int .i64 x5_1 ∧ Aside0 (gimbalref0_EqRaws.l0 kq l0 l1 x5_1 = some r) ∧ Aside0 (kq ≤ k) ∧ Drawn0 w w')
    case atStart => exact ⟨(0), (by first | rfl | (simp; done) | (simp [*]; done)), H', ⟨Nat.le_refl _⟩, by repeat (first | exact Drawn0.refl _ | apply Drawn0.step)⟩
    case round =>
      clear H'; (try clear c1); (try clear c2); (try clear p2); (try clear c3); (try clear c3b0); (try clear c3b1); (try clear c3b2)
      obtain ⟨x5_1, rfl, HA, HK1, ⟨m1, rfl⟩⟩ := hrel
      cases gk with
      | zero => exact absurd HA.out (by simp [gimbalref0_EqRaws.l0])
      | succ k1 =>
        have H := HA.out
        clear HA
        simp only [gimbalref0_EqRaws.l0] at H
        by_cases c4 : x5_1 < (l0.length : Int)
        · rw [if_pos c4] at H
          have c4b0 : decide (x5_1 < (l0.length : Int)) = true := decide_eq_true c4
          clear c4
          by_cases c5 : 0 ≤ x5_1
          · rw [if_pos c5] at H
            have c5b0 : decide (0 ≤ x5_1) = true := decide_eq_true c5
            clear c5
            by_cases c6 : x5_1 < (l1.length : Int)
            · rw [if_pos c6] at H
              have c6b0 : decide (x5_1 < (l1.length : Int)) = true := decide_eq_true c6
              clear c6
              by_cases c7 : (!(((rd_T55 l0 x5_1).f0) == ((rd_T55 l1 x5_1).f0)) || (!(((rd_T55 l0 x5_1).f1) == ((rd_T55 l1 x5_1).f1)) || (!(((rd_T55 l0 x5_1).f2) == ((rd_T55 l1 x5_1).f2)) || (!(((rd_T55 l0 x5_1).f3) == ((rd_T55 l1 x5_1).f3)))))) = true
              · rw [if_pos c7] at H
                have c7b0 : (!(((rd_T55 l0 x5_1).f0) == ((rd_T55 l1 x5_1).f0)) || (!(((rd_T55 l0 x5_1).f1) == ((rd_T55 l1 x5_1).f1)) || (!(((rd_T55 l0 x5_1).f2) == ((rd_T55 l1 x5_1).f2)) || (!(((rd_T55 l0 x5_1).f3) == ((rd_T55 l1 x5_1).f3)))))) = true := c7
                clear c7
                obtain rfl := Option.some.inj H
                have p174 : 0 ≤ (x5_1 : Int) := of_decide_eq_true (by first | (with_reducible assumption) | assumption)
                have q174 : x5_1 < (l0.length : Int) := of_decide_eq_true (by first | (with_reducible assumption) | assumption)
                obtain ⟨ad174, e174, hx174_0, hx174_1, hx174_2, hx174_3⟩ := at_T55 HR0.out x5_1 p174 q174
                cases e174
                replace p174 := eq_true p174
                replace q174 := eq_true q174
                have p175 : 0 ≤ (x5_1 : Int) := of_decide_eq_true (by first | (with_reducible assumption) | assumption)
                have q175 : x5_1 < (l1.length : Int) := of_decide_eq_true (by first | (with_reducible assumption) | assumption)
                obtain ⟨ad175, e175, hx175_0, hx175_1, hx175_2, hx175_3⟩ := at_T55 HR1.out x5_1 p175 q175
                cases e175
                replace p175 := eq_true p175
                replace q175 := eq_true q175
                go_wp2
                repeat (go_quiet (fail); try go_wp2)
                go_ret
                exact ⟨by first | rfl | (simp; done) | (simp [*]; done), by repeat (first | exact Drawn0.refl _ | apply Drawn0.step)⟩
              · rw [if_neg c7] at H
                have c7b0 : (!(((rd_T55 l0 x5_1).f0) == ((rd_T55 l1 x5_1).f0)) || (!(((rd_T55 l0 x5_1).f1) == ((rd_T55 l1 x5_1).f1)) || (!(((rd_T55 l0 x5_1).f2) == ((rd_T55 l1 x5_1).f2)) || (!(((rd_T55 l0 x5_1).f3) == ((rd_T55 l1 x5_1).f3)))))) = false := by simpa using c7
                clear c7
                have H' := Aside0.mk H
                clear H
                have p174 : 0 ≤ (x5_1 : Int) := of_decide_eq_true (by first | (with_reducible assumption) | assumption)
                have q174 : x5_1 < (l0.length : Int) := of_decide_eq_true (by first | (with_reducible assumption) | assumption)
                obtain ⟨ad174, e174, hx174_0, hx174_1, hx174_2, hx174_3⟩ := at_T55 HR0.out x5_1 p174 q174
                cases e174
                replace p174 := eq_true p174
                replace q174 := eq_true q174
                have p175 : 0 ≤ (x5_1 : Int) := of_decide_eq_true (by first | (with_reducible assumption) | assumption)
                have q175 : x5_1 < (l1.length : Int) := of_decide_eq_true (by first | (with_reducible assumption) | assumption)
                obtain ⟨ad175, e175, hx175_0, hx175_1, hx175_2, hx175_3⟩ := at_T55 HR1.out x5_1 p175 q175
                cases e175
                replace p175 := eq_true p175
                replace q175 := eq_true q175
                go_wp2
                repeat (go_quiet (fail); try go_wp2)
                go_roundg k1
                case measure => have := HK1.out; omega
                case rel => exact ⟨(wrap64 (x5_1 + 1)), (by first | rfl | (simp; done) | (simp [*]; done)), H', ⟨by have := HK1.out; omega⟩, by repeat (first | exact Drawn0.refl _ | apply Drawn0.step)⟩
            · rw [if_neg c6] at H
              exact absurd H (by simp)
          · rw [if_neg c5] at H
            exact absurd H (by simp)
        · rw [if_neg c4] at H
          have c4b0 : decide (x5_1 < (l0.length : Int)) = false := decide_eq_false c4
          clear c4
          obtain rfl := Option.some.inj H
          go_wp2
          repeat (go_quiet (fail); try go_wp2)
          go_ret
          exact ⟨by first | rfl | (simp; done) | (simp [*]; done), by repeat (first | exact Drawn0.refl _ | apply Drawn0.step)⟩
  · rw [if_neg c3] at H
    have c3b0 : ((l0.length : Int) == (l1.length : Int)) = false := beq_eq_false_iff_ne.mpr c3
    have c3b1 : ((l0.length : Int) != (l1.length : Int)) = true := bne_iff_ne.mpr c3
    have c3b2 : (l0.length == l1.length) = false := by first | simpa using c3 | (simp at c3 ⊢; omega)
    obtain rfl := Option.some.inj H
    go_enter Try.func21, Try.ntmps21
    go_wp2
    repeat (go_quiet (fail); try go_wp2)
    go_ret
    exact ⟨by first | rfl | (simp; done) | (simp [*]; done), by repeat (first | exact Drawn0.refl _ | apply Drawn0.step)⟩

/-! ### gimballaw9_DrvSamples: function 6 -/
mutual
def gimballaw9_DrvSamples.j0 : Nat → Bool → List (S55) → Int → Option (Bool)
  | 0, _, _, _ => none
  | k + 1, x22, x177000, x177001 => if x22 = true then (some true) else (gimballaw9_DrvSamples.l0 k ([] : List Int) ([] : List (S55)) 0 0 x177000 x177001)
def gimballaw9_DrvSamples.l0 : Nat → List Int → List (S55) → Int → Int → List (S55) → Int → Option (Bool)
  | 0, _, _, _, _, _, _ => none
  | k + 1, x3, x4, x5, x6, x177000, x177001 => if x6 < (x177000.length : Int) then (if 0 ≤ x6 then ((gimbalref8_MayRaw.f ((rd_T55 x177000 x6).f0) ((rd_T55 x177000 x6).f1) ((rd_T55 x177000 x6).f2) ((rd_T55 x177000 x6).f3)).bind fun t178 => (if t178 = true then ((gimbalref8_Bytes.f k ((rd_T55 x177000 x6).f0) ((rd_T55 x177000 x6).f1) ((rd_T55 x177000 x6).f2) ((rd_T55 x177000 x6).f3)).bind fun t180 => ((gimballaw0_Within.f (wrap64 (x177001 + x6)) 4).bind fun t183 => (if t183 = 0 then ((gimballaw0_Within.f x177001 8).bind fun t184 => (if 0 ≤ t184 then (if t184 < (t180.length : Int) then ((gimballaw0_Within.f x177001 255).bind fun t186 => ((some (t180.set (t184 : Int).toNat (Go.bits .xor .u8 (rd t180 t184) ((wrap64 (1 + t186)) % 256)) : List Int)).bind fun y187 => (if x3.length + y187.length < 140737488355328 then (gimballaw9_DrvSamples.l0 k (x3 ++ y187) x4 (wrap64 (x5 + 1)) (wrap64 (x6 + 1)) x177000 x177001) else (none)))) else (none)) else (none))) else (if x4.length < 4398046511104 then (if x3.length + t180.length < 140737488355328 then (gimballaw9_DrvSamples.l0 k (x3 ++ t180) (x4 ++ [(⟨(rd_T55 x177000 x6).f0, (rd_T55 x177000 x6).f1, (rd_T55 x177000 x6).f2, (rd_T55 x177000 x6).f3⟩ : S55)]) x5 (wrap64 (x6 + 1)) x177000 x177001) else (none)) else (none))))) else (some true))) else (none)) else ((drv_Take.f k 16 49 true 7 5 0 false (x177000.length : Int) 0 1 x3).bind fun bt199 => ((gimballaw9_num.f bt199.2.2.2.2.2.2.2.2.2.2.2).bind fun t214 => (if t214 = 0 then (if bt199.2.2.2.2.2.2.2.2.2.2.1 = true then (some false) else (if bt199.2.2.2.2.1 = 4 then (if bt199.2.2.2.2.2.2.2.1 = 0 then (if bt199.2.2.2.2.2.2.2.2.1 = x5 then ((gimbalref0_EqRaws.f k bt199.2.2.2.2.2.2.2.2.2.1 x4).bind fun t215 => (if t215 = true then ((gimballaw9_wakes.f).bind fun t216 => (some t216)) else (some false))) else (some false)) else (some false)) else (some false))) else (some false))))
end
def gimballaw9_DrvSamples.f (k : Nat) (l0_0 : List (S55)) (a0_1 : Int) : Option (Bool) := if (l0_0.length : Int) = 0 then (gimballaw9_DrvSamples.j0 k true l0_0 a0_1) else (gimballaw9_DrvSamples.j0 k (decide ((l0_0.length : Int) > 16)) l0_0 a0_1)
theorem gimballaw9_DrvSamples.mono_l : ∀ k, (∀ y0 y1 y2, LeO (gimballaw9_DrvSamples.j0 k y0 y1 y2) (gimballaw9_DrvSamples.j0 (k + 1) y0 y1 y2)) ∧ (∀ y0 y1 y2 y3 y4 y5, LeO (gimballaw9_DrvSamples.l0 k y0 y1 y2 y3 y4 y5) (gimballaw9_DrvSamples.l0 (k + 1) y0 y1 y2 y3 y4 y5))
  | 0 => ⟨fun _ _ _ r h => by simp [gimballaw9_DrvSamples.j0] at h, fun _ _ _ _ _ _ r h => by simp [gimballaw9_DrvSamples.l0] at h⟩
  | k + 1 => by
    obtain ⟨ih0, ih1⟩ := gimballaw9_DrvSamples.mono_l k
    refine ⟨?_, ?_⟩
    · intro y0 y1 y2
      unfold gimballaw9_DrvSamples.j0
      repeat' first
      | (with_reducible exact ih0 _ _ _)
      | (with_reducible exact ih1 _ _ _ _ _ _)
      | (with_reducible exact drv_Take.mono _ _ _ _ _ _ _ _ _ _ _ _)
      | (with_reducible exact gimbalref0_EqRaws.mono _ _ _)
      | (with_reducible exact gimbalref8_Bytes.mono _ _ _ _ _)
      | (with_reducible exact LeO.refl _)
      | (with_reducible exact LeO.none _)
      | (with_reducible refine LeO.ite ?_ ?_)
      | (with_reducible refine LeO.bind ?_ (fun _ => ?_))
      | exact ih0 _ _ _
      | exact ih1 _ _ _ _ _ _
      | exact drv_Take.mono _ _ _ _ _ _ _ _ _ _ _ _
      | exact gimbalref0_EqRaws.mono _ _ _
      | exact gimbalref8_Bytes.mono _ _ _ _ _
      | exact LeO.none _
      | refine LeO.ite ?_ ?_
      | refine LeO.bind ?_ (fun _ => ?_)
    · intro y0 y1 y2 y3 y4 y5
      unfold gimballaw9_DrvSamples.l0
      repeat' first
      | (with_reducible exact ih0 _ _ _)
      | (with_reducible exact ih1 _ _ _ _ _ _)
      | (with_reducible exact drv_Take.mono _ _ _ _ _ _ _ _ _ _ _ _)
      | (with_reducible exact gimbalref0_EqRaws.mono _ _ _)
      | (with_reducible exact gimbalref8_Bytes.mono _ _ _ _ _)
      | (with_reducible exact LeO.refl _)
      | (with_reducible exact LeO.none _)
      | (with_reducible refine LeO.ite ?_ ?_)
      | (with_reducible refine LeO.bind ?_ (fun _ => ?_))
      | exact ih0 _ _ _
      | exact ih1 _ _ _ _ _ _
      | exact drv_Take.mono _ _ _ _ _ _ _ _ _ _ _ _
      | exact gimbalref0_EqRaws.mono _ _ _
      | exact gimbalref8_Bytes.mono _ _ _ _ _
      | exact LeO.none _
      | refine LeO.ite ?_ ?_
      | refine LeO.bind ?_ (fun _ => ?_)
theorem gimballaw9_DrvSamples.mono : ∀ a0 a1 k, LeO (gimballaw9_DrvSamples.f k a0 a1) (gimballaw9_DrvSamples.f (k + 1) a0 a1) := by
  intro a0 a1 k
  obtain ⟨ih0, ih1⟩ := gimballaw9_DrvSamples.mono_l k
  unfold gimballaw9_DrvSamples.f
  repeat' first
      | (with_reducible exact ih0 _ _ _)
      | (with_reducible exact ih1 _ _ _ _ _ _)
      | (with_reducible exact drv_Take.mono _ _ _ _ _ _ _ _ _ _ _ _)
      | (with_reducible exact gimbalref0_EqRaws.mono _ _ _)
      | (with_reducible exact gimbalref8_Bytes.mono _ _ _ _ _)
      | (with_reducible exact LeO.refl _)
      | (with_reducible exact LeO.none _)
      | (with_reducible refine LeO.ite ?_ ?_)
      | (with_reducible refine LeO.bind ?_ (fun _ => ?_))
      | exact ih0 _ _ _
      | exact ih1 _ _ _ _ _ _
      | exact drv_Take.mono _ _ _ _ _ _ _ _ _ _ _ _
      | exact gimbalref0_EqRaws.mono _ _ _
      | exact gimbalref8_Bytes.mono _ _ _ _ _
      | exact LeO.none _
      | refine LeO.ite ?_ ?_
      | refine LeO.bind ?_ (fun _ => ?_)
def gimballaw9_DrvSamples.T13 : Bool × List (List Nat × List Nat) := (true, [([], []), ([], []), ([1], [1]), ([2], [2]), ([0, 3], [0, 3]), ([4], [4]), ([], []), ([6], [6]), ([7, 3], [7]), ([8], [8]), ([9], [9]), ([5, 10], [5, 10]), ([0, 3, 0, 1, 2, 3, 4, 5, 6, 7, 8, 9, 10, 11], [0, 3]), ([12, 11, 8, 0, 1, 2, 3, 4, 5, 6, 7, 8, 9, 10, 11], [11, 12])])
def gimballaw9_DrvSamples.B13 : List Nat := [0, 0, 2, 6, 15, 31, 0, 64, 206, 462, 974, 2047, 4095, 8191]
theorem gimballaw9_DrvSamples.tab13 : rtab .any (opsOf Try.f6 13) = gimballaw9_DrvSamples.T13 := by kernel_rfl
theorem gimballaw9_DrvSamples.bits13 : waitsOk gimballaw9_DrvSamples.T13.2 gimballaw9_DrvSamples.B13 = true := by kernel_rfl
set_option maxHeartbeats 8000000 in
set_option maxRecDepth 100000 in
theorem gimballaw9_DrvSamples.calls (k : Nat) (A0_0 : Option Addr) (c0_0 : Nat) (l0_0 : List (S55)) (a0_1 : Int) (r : Bool) (w : World) (hr0_0 : Kd.C k55 w A0_0 l0_0.length l0_0) (hc0_0 : l0_0.length ≤ c0_0) (h : gimballaw9_DrvSamples.f k l0_0 a0_1 = some r) (hrt_ : Aside0 (r = true)) :
    Calls Try.prog 6 #[.agg #[.slice A0_0 l0_0.length c0_0, .int .i64 a0_1]] w fun e w' => e = .returned (.bool r) ∧ Below w.heap.size w w' := by
  have hu52 := Try.underlying52
  have hu55 := Try.underlying55
  have hu24 := Try.underlying24
  have hu27 := Try.underlying27
  have HR0_0 := Aside0.mk hr0_0
  have HC0_0 := Aside0.mk hc0_0
  clear hr0_0 hc0_0
  have HB := Aside0.mk (Below.refl w.heap.size w)
  have H : (if (l0_0.length : Int) = 0 then (gimballaw9_DrvSamples.j0 k true l0_0 a0_1) else (gimballaw9_DrvSamples.j0 k (decide ((l0_0.length : Int) > 16)) l0_0 a0_1)) = some r := h
  clear h
  have HC2 := Aside0.mk H
  clear H
  go_enter Try.func6, Try.ntmps6
  go_upto_region 1 with (first | ((with_reducible refine gate_dst (N := 1) rfl ?_); (try (refine gate_guard (by rfl) ?_; dsimp only)); refine box_event ?hg (N := 1) ?hd (cs := #[.slice A0_0 l0_0.length c0_0, .int .i64 a0_1]) (t := 52) ?hr ?_; (case hd => rfl); (case hg => rfl); (case hr => first | (go_simp; done) | (go_simp; rfl)); intro gb176 hg w3 hbox hb; have n0_ := Aside0.mk (below_step (Sq.w HB.out) hb); have n1_ := Aside0.mk (hbox); have n2_ := Aside0.mk ((by rw [hg]; exact (below_size (Sq.w HB.out)) : w.heap.size ≤ gb176)); have n3_ := Aside0.mk ((by rw [hg]; exact (below_size (Sq.w HB.out)) : w.heap.size ≤ gb176)); clear HB; have HB := n0_; have BK176 := n1_; have GW176 := n2_; have GE176 := n3_; clear n0_ n1_ n2_ n3_; clear hb hbox hg))
  (try simp only [Act.put, List.setIfInBounds_toArray, List.set_cons_zero, List.set_cons_succ])
  go_cut [22] (fun v22 wc => ∃ (kq : Nat) (x22_1 : Bool), v22 = .bool x22_1 ∧ Aside0 (gimballaw9_DrvSamples.j0 kq x22_1 l0_0 a0_1 = some r) ∧ Aside0 (kq ≤ k) ∧ Aside0 (wc.heap[gb176]? = some (.cells #[(.slice A0_0 l0_0.length c0_0), .int .i64 a0_1] 52 (0, 0))) ∧ Aside0 (Below w.heap.size w wc))
  case first =>
    have H := HC2.out
    clear HC2
    by_cases c4 : (l0_0.length : Int) = 0
    · rw [if_pos c4] at H
      have c4b0 : ((l0_0.length : Int) == 0) = true := beq_iff_eq.mpr c4
      have c4b1 : ((l0_0.length : Int) != 0) = false := bne_eq_false_iff_eq.mpr c4
      clear c4
      (first | rw [c4b0] | (simp only [i64_w, i32_w]; rw [c4b0]) | skip)
      have H' := Aside0.mk H
      clear H
      obtain ⟨hcz5_0, hcz5_1⟩ := Sq.c2 BK176.out
      obtain ⟨hfz5_0, hfz5_1⟩ := Sq.f2 BK176.out
      go_wp2
      go_meet
      case rel => exact ⟨_, (true), (by first | rfl | (simp; done) | (simp [*]; done)), H', ⟨by first | omega | exact Nat.le_refl _⟩, ⟨Sq.b BK176.out⟩, ⟨Sq.w HB.out⟩⟩
    · rw [if_neg c4] at H
      have c4b0 : ((l0_0.length : Int) == 0) = false := beq_eq_false_iff_ne.mpr c4
      have c4b1 : ((l0_0.length : Int) != 0) = true := bne_iff_ne.mpr c4
      have c4b2 : ¬ (l0_0 = []) := fun h_ => c4 (by rw [h_]; rfl)
      (first | rw [c4b0] | (simp only [i64_w, i32_w]; rw [c4b0]) | skip)
      have H' := Aside0.mk H
      clear H
      obtain ⟨hcz6_0, hcz6_1⟩ := Sq.c2 BK176.out
      obtain ⟨hfz6_0, hfz6_1⟩ := Sq.f2 BK176.out
      go_wp2
      go_meet
      case rel => exact ⟨_, (decide ((l0_0.length : Int) > 16)), (by first | rfl | (simp; done) | (simp [*]; done)), H', ⟨by first | omega | exact Nat.le_refl _⟩, ⟨Sq.b BK176.out⟩, ⟨Sq.w HB.out⟩⟩
  case rest =>
    clear HC2; (try clear p2); (try clear c4); (try clear c4b0); (try clear c4b1); (try clear c4b2); (try clear c6); (try clear hcz5_0 hcz5_1); (try clear hcz6_0 hcz6_1); (try clear hfz5_0 hfz5_1); (try clear hfz6_0 hfz6_1)
    obtain ⟨kq, x22_1, rfl, HA, HJ1, BK176, HB⟩ := hcut
    cases kq with
    | zero => exact absurd HA.out (by simp [gimballaw9_DrvSamples.j0])
    | succ kj1 =>
      have H := HA.out
      clear HA
      simp only [gimballaw9_DrvSamples.j0] at H
      by_cases c7 : x22_1 = true
      · subst c7
        have H1 : (some true) = some r := by rw [if_pos rfl] at H; exact H
        clear H
        have H := H1
        clear H1
        obtain rfl := Option.some.inj H
        go_wp2
        go_ret
        exact ⟨by first | rfl | (simp [errW_none, errW_some] <;> rfl) | (simp [*, errW_none, errW_some] <;> rfl), Sq.w HB.out⟩
      · replace c7 := Bool.eq_false_iff.mpr c7
        subst c7
        have H1 : (gimballaw9_DrvSamples.l0 kj1 ([] : List Int) ([] : List (S55)) 0 0 l0_0 a0_1) = some r := by rw [if_neg (show ¬ (false = true) by decide)] at H; exact H
        clear H
        have H := H1
        clear H1
        have H' := Aside0.mk H
        clear H
        go_wp2
        go_loopg [3, 4, 5, 6] kj1 (fun kq v3 v4 v5 v6 w' => ∃ (x3_2 : List Int) (x4_2 : List (S55)) (x5_2 : Int) (x6_2 : Int), v5 = .int .i64 x5_2 ∧ v6 = .int .i64 x6_2 ∧ Aside0 (gimballaw9_DrvSamples.l0 kq x3_2 x4_2 x5_2 x6_2 l0_0 a0_1 = some r) ∧ Aside0 (kq ≤ kj1) ∧ Aside0 (Kd.R (Kd.int .u8) 5 w' w.heap.size (fun _ => True) v3 x3_2) ∧ Aside0 (Kd.R k55 55 w' w.heap.size (fun _ => True) v4 x4_2) ∧ Aside0 (w'.heap[gb176]? = some (.cells #[(.slice A0_0 l0_0.length c0_0), .int .i64 a0_1] 52 (0, 0))) ∧ Aside0 (Below w.heap.size w w'))
        case atStart => exact ⟨(([] : List Int)), (([] : List (S55))), (0), (0), (by first | rfl | (simp; done) | (simp [*]; done)), (by first | rfl | (simp; done) | (simp [*]; done)), H', ⟨Nat.le_refl _⟩, ⟨by first | exact Kd.R_nil _ _ _ _ _ | exact Kd.N_nil _ _ _ _ _ | exact Kd.V_nil _ _ _ _ _ | exact Kd.Q_nil _ _ _ _ _ | exact Kd.S_nil _ _ _ _ _⟩, ⟨by first | exact Kd.R_nil _ _ _ _ _ | exact Kd.N_nil _ _ _ _ _ | exact Kd.V_nil _ _ _ _ _ | exact Kd.Q_nil _ _ _ _ _ | exact Kd.S_nil _ _ _ _ _⟩, ⟨Sq.b BK176.out⟩, ⟨Sq.w HB.out⟩⟩
        case round =>
          clear H'; (try clear p2); (try clear c4); (try clear c4b0); (try clear c4b1); (try clear c4b2); (try clear c6); (try clear c7); (try clear hcz5_0 hcz5_1); (try clear hcz6_0 hcz6_1); (try clear hfz5_0 hfz5_1); (try clear hfz6_0 hfz6_1); (try clear p2)
          obtain ⟨x3_2, x4_2, x5_2, x6_2, rfl, rfl, HA, HK2, HO_3, HO_4, BK176, HB⟩ := hrel
          cases gk with
          | zero => exact absurd HA.out (by simp [gimballaw9_DrvSamples.l0])
          | succ k2 =>
            have H := HA.out
            clear HA
            simp only [gimballaw9_DrvSamples.l0] at H
            by_cases c8 : x6_2 < (l0_0.length : Int)
            · rw [if_pos c8] at H
              have c8b0 : decide (x6_2 < (l0_0.length : Int)) = true := decide_eq_true c8
              clear c8
              by_cases c9 : 0 ≤ x6_2
              · rw [if_pos c9] at H
                have c9b0 : decide (0 ≤ x6_2) = true := decide_eq_true c9
                clear c9
                replace H := Option.bind_eq_some_iff.mp H
                obtain ⟨t178, A100, H⟩ := H
                replace H : (if t178 = true then ((gimbalref8_Bytes.f k2 ((rd_T55 l0_0 x6_2).f0) ((rd_T55 l0_0 x6_2).f1) ((rd_T55 l0_0 x6_2).f2) ((rd_T55 l0_0 x6_2).f3)).bind fun t180 => ((gimballaw0_Within.f (wrap64 (a0_1 + x6_2)) 4).bind fun t183 => (if t183 = 0 then ((gimballaw0_Within.f a0_1 8).bind fun t184 => (if 0 ≤ t184 then (if t184 < (t180.length : Int) then ((gimballaw0_Within.f a0_1 255).bind fun t186 => ((some (t180.set (t184 : Int).toNat (Go.bits .xor .u8 (rd t180 t184) ((wrap64 (1 + t186)) % 256)) : List Int)).bind fun y187 => (if x3_2.length + y187.length < 140737488355328 then (gimballaw9_DrvSamples.l0 k2 (x3_2 ++ y187) x4_2 (wrap64 (x5_2 + 1)) (wrap64 (x6_2 + 1)) l0_0 a0_1) else (none)))) else (none)) else (none))) else (if x4_2.length < 4398046511104 then (if x3_2.length + t180.length < 140737488355328 then (gimballaw9_DrvSamples.l0 k2 (x3_2 ++ t180) (x4_2 ++ [(⟨(rd_T55 l0_0 x6_2).f0, (rd_T55 l0_0 x6_2).f1, (rd_T55 l0_0 x6_2).f2, (rd_T55 l0_0 x6_2).f3⟩ : S55)]) x5_2 (wrap64 (x6_2 + 1)) l0_0 a0_1) else (none)) else (none))))) else (some true)) = some r := H
                have A10 := Aside0.mk A100
                clear A100
                by_cases c11 : t178 = true
                · subst c11
                  have H1 : ((gimbalref8_Bytes.f k2 ((rd_T55 l0_0 x6_2).f0) ((rd_T55 l0_0 x6_2).f1) ((rd_T55 l0_0 x6_2).f2) ((rd_T55 l0_0 x6_2).f3)).bind fun t180 => ((gimballaw0_Within.f (wrap64 (a0_1 + x6_2)) 4).bind fun t183 => (if t183 = 0 then ((gimballaw0_Within.f a0_1 8).bind fun t184 => (if 0 ≤ t184 then (if t184 < (t180.length : Int) then ((gimballaw0_Within.f a0_1 255).bind fun t186 => ((some (t180.set (t184 : Int).toNat (Go.bits .xor .u8 (rd t180 t184) ((wrap64 (1 + t186)) % 256)) : List Int)).bind fun y187 => (if x3_2.length + y187.length < 140737488355328 then (gimballaw9_DrvSamples.l0 k2 (x3_2 ++ y187) x4_2 (wrap64 (x5_2 + 1)) (wrap64 (x6_2 + 1)) l0_0 a0_1) else (none)))) else (none)) else (none))) else (if x4_2.length < 4398046511104 then (if x3_2.length + t180.length < 140737488355328 then (gimballaw9_DrvSamples.l0 k2 (x3_2 ++ t180) (x4_2 ++ [(⟨(rd_T55 l0_0 x6_2).f0, (rd_T55 l0_0 x6_2).f1, (rd_T55 l0_0 x6_2).f2, (rd_T55 l0_0 x6_2).f3⟩ : S55)]) x5_2 (wrap64 (x6_2 + 1)) l0_0 a0_1) else (none)) else (none))))) = some r := by rw [if_pos rfl] at H; exact H
                  clear H
                  have H := H1
                  clear H1
                  replace H := Option.bind_eq_some_iff.mp H
                  obtain ⟨t180, A120, H⟩ := H
                  replace H : ((gimballaw0_Within.f (wrap64 (a0_1 + x6_2)) 4).bind fun t183 => (if t183 = 0 then ((gimballaw0_Within.f a0_1 8).bind fun t184 => (if 0 ≤ t184 then (if t184 < (t180.length : Int) then ((gimballaw0_Within.f a0_1 255).bind fun t186 => ((some (t180.set (t184 : Int).toNat (Go.bits .xor .u8 (rd t180 t184) ((wrap64 (1 + t186)) % 256)) : List Int)).bind fun y187 => (if x3_2.length + y187.length < 140737488355328 then (gimballaw9_DrvSamples.l0 k2 (x3_2 ++ y187) x4_2 (wrap64 (x5_2 + 1)) (wrap64 (x6_2 + 1)) l0_0 a0_1) else (none)))) else (none)) else (none))) else (if x4_2.length < 4398046511104 then (if x3_2.length + t180.length < 140737488355328 then (gimballaw9_DrvSamples.l0 k2 (x3_2 ++ t180) (x4_2 ++ [(⟨(rd_T55 l0_0 x6_2).f0, (rd_T55 l0_0 x6_2).f1, (rd_T55 l0_0 x6_2).f2, (rd_T55 l0_0 x6_2).f3⟩ : S55)]) x5_2 (wrap64 (x6_2 + 1)) l0_0 a0_1) else (none)) else (none)))) = some r := H
                  have A12 := Aside0.mk A120
                  clear A120
                  replace H := Option.bind_eq_some_iff.mp H
                  obtain ⟨t183, A130, H⟩ := H
                  replace H : (if t183 = 0 then ((gimballaw0_Within.f a0_1 8).bind fun t184 => (if 0 ≤ t184 then (if t184 < (t180.length : Int) then ((gimballaw0_Within.f a0_1 255).bind fun t186 => ((some (t180.set (t184 : Int).toNat (Go.bits .xor .u8 (rd t180 t184) ((wrap64 (1 + t186)) % 256)) : List Int)).bind fun y187 => (if x3_2.length + y187.length < 140737488355328 then (gimballaw9_DrvSamples.l0 k2 (x3_2 ++ y187) x4_2 (wrap64 (x5_2 + 1)) (wrap64 (x6_2 + 1)) l0_0 a0_1) else (none)))) else (none)) else (none))) else (if x4_2.length < 4398046511104 then (if x3_2.length + t180.length < 140737488355328 then (gimballaw9_DrvSamples.l0 k2 (x3_2 ++ t180) (x4_2 ++ [(⟨(rd_T55 l0_0 x6_2).f0, (rd_T55 l0_0 x6_2).f1, (rd_T55 l0_0 x6_2).f2, (rd_T55 l0_0 x6_2).f3⟩ : S55)]) x5_2 (wrap64 (x6_2 + 1)) l0_0 a0_1) else (none)) else (none))) = some r := H
                  have A13 := Aside0.mk A130
                  clear A130
                  by_cases c14 : t183 = 0
                  · rw [if_pos c14] at H
                    have c14b0 : (t183 == 0) = true := beq_iff_eq.mpr c14
                    have c14b1 : (t183 != 0) = false := bne_eq_false_iff_eq.mpr c14
                    clear c14
                    replace H := Option.bind_eq_some_iff.mp H
                    obtain ⟨t184, A150, H⟩ := H
                    replace H : (if 0 ≤ t184 then (if t184 < (t180.length : Int) then ((gimballaw0_Within.f a0_1 255).bind fun t186 => ((some (t180.set (t184 : Int).toNat (Go.bits .xor .u8 (rd t180 t184) ((wrap64 (1 + t186)) % 256)) : List Int)).bind fun y187 => (if x3_2.length + y187.length < 140737488355328 then (gimballaw9_DrvSamples.l0 k2 (x3_2 ++ y187) x4_2 (wrap64 (x5_2 + 1)) (wrap64 (x6_2 + 1)) l0_0 a0_1) else (none)))) else (none)) else (none)) = some r := H
                    have A15 := Aside0.mk A150
                    clear A150
                    by_cases c16 : 0 ≤ t184
                    · rw [if_pos c16] at H
                      have c16b0 : decide (0 ≤ t184) = true := decide_eq_true c16
                      clear c16
                      by_cases c17 : t184 < (t180.length : Int)
                      · rw [if_pos c17] at H
                        have c17b0 : decide (t184 < (t180.length : Int)) = true := decide_eq_true c17
                        clear c17
                        replace H := Option.bind_eq_some_iff.mp H
                        obtain ⟨t186, A180, H⟩ := H
                        replace H : ((some (t180.set (t184 : Int).toNat (Go.bits .xor .u8 (rd t180 t184) ((wrap64 (1 + t186)) % 256)) : List Int)).bind fun y187 => (if x3_2.length + y187.length < 140737488355328 then (gimballaw9_DrvSamples.l0 k2 (x3_2 ++ y187) x4_2 (wrap64 (x5_2 + 1)) (wrap64 (x6_2 + 1)) l0_0 a0_1) else (none))) = some r := H
                        have A18 := Aside0.mk A180
                        clear A180
                        obtain ⟨y187, hy187⟩ : ∃ y_ : List Int, y_ = (t180.set (t184 : Int).toNat (Go.bits .xor .u8 (rd t180 t184) ((wrap64 (1 + t186)) % 256))) := ⟨_, rfl⟩
                        replace H : (if x3_2.length + y187.length < 140737488355328 then (gimballaw9_DrvSamples.l0 k2 (x3_2 ++ y187) x4_2 (wrap64 (x5_2 + 1)) (wrap64 (x6_2 + 1)) l0_0 a0_1) else (none)) = some r := by first | (rw [hy187]; with_reducible exact H) | (have H2_ := (Option.bind_some _ _).symm.trans H; rw [hy187]; with_reducible exact H2_) | (have H2_ := (Option.bind_some _ _).symm.trans H; with_reducible exact H2_) | with_reducible exact H | (rw [hy187]; exact H) | exact H
                        have Ny187 := Aside0.mk hy187
                        clear hy187
                        by_cases c20 : x3_2.length + y187.length < 140737488355328
                        · rw [if_pos c20] at H
                          have LMc20 := Aside0.mk c20
                          clear c20
                          obtain ⟨y188, hy188⟩ : ∃ y_ : List Int, y_ = (x3_2 ++ y187) := ⟨_, rfl⟩
                          replace H : (gimballaw9_DrvSamples.l0 k2 y188 x4_2 (wrap64 (x5_2 + 1)) (wrap64 (x6_2 + 1)) l0_0 a0_1) = some r := by first | (rw [hy188]; with_reducible exact H) | (have H2_ := (Option.bind_some _ _).symm.trans H; rw [hy188]; with_reducible exact H2_) | (have H2_ := (Option.bind_some _ _).symm.trans H; with_reducible exact H2_) | with_reducible exact H | (rw [hy188]; exact H) | exact H
                          have Ny188 := Aside0.mk hy188
                          clear hy188
                          have H' := Aside0.mk H
                          clear H
                          obtain ⟨hcz21_0, hcz21_1⟩ := Sq.c2 BK176.out
                          obtain ⟨hfz21_0, hfz21_1⟩ := Sq.f2 BK176.out
                          have p177 : 0 ≤ (x6_2 : Int) := of_decide_eq_true (by first | (with_reducible assumption) | assumption)
                          have q177 : x6_2 < (l0_0.length : Int) := of_decide_eq_true (by first | (with_reducible assumption) | assumption)
                          obtain ⟨ad177, e177, hx177_0, hx177_1, hx177_2, hx177_3⟩ := at_T55 HR0_0.out x6_2 p177 q177
                          cases e177
                          replace hx177_0 := (HB.out.cell (World.block_lt_of_cell? w _ hx177_0)).trans hx177_0
                          replace hx177_1 := (HB.out.cell (World.block_lt_of_cell? w _ hx177_1)).trans hx177_1
                          replace hx177_2 := (HB.out.cell (World.block_lt_of_cell? w _ hx177_2)).trans hx177_2
                          replace hx177_3 := (HB.out.cell (World.block_lt_of_cell? w _ hx177_3)).trans hx177_3
                          replace p177 := eq_true p177
                          replace q177 := eq_true q177
                          try go_wp2_with (first | ((with_reducible refine gate_callee (f := 19) rfl ?_); refine goesL_ (some 35) rfl rfl Try.func19 (by kernel_rfl) rfl #[.agg #[.int .i64 ((rd_T55 l0_0 x6_2).f0), .int .i64 ((rd_T55 l0_0 x6_2).f1), .int .i64 ((rd_T55 l0_0 x6_2).f2), .int .i64 ((rd_T55 l0_0 x6_2).f3)]] rfl (by (try simp only [List.map_toArray, List.map_cons, List.map_nil]); first | done | rfl | (simp only [List.length_drop, List.length_take]; rfl)) ?_; (with_reducible refine (gimbalref8_MayRaw.calls ((rd_T55 l0_0 x6_2).f0) ((rd_T55 l0_0 x6_2).f1) ((rd_T55 l0_0 x6_2).f2) ((rd_T55 l0_0 x6_2).f3) true _ A10.out).mono ?_); rintro e w22 ⟨rfl, hb⟩; refine ⟨_, rfl, ?_⟩; have n0_ := Aside0.mk (Kd.R_below (Sq.rR HO_3.out) hb); have n1_ := Aside0.mk (Kd.R_below (Sq.rR HO_4.out) hb); have n2_ := Aside0.mk (blk_below (Sq.b BK176.out) hb); have n3_ := Aside0.mk (below_step (Sq.w HB.out) hb); clear HO_3; clear HO_4; clear BK176; clear HB; have HO_3 := n0_; have HO_4 := n1_; have BK176 := n2_; have HB := n3_; clear n0_ n1_ n2_ n3_; (try clear hb); (try clear hb2); (try clear hk); (try clear hi); obtain ⟨hcz23_0, hcz23_1⟩ := Sq.c2 BK176.out; obtain ⟨hfz23_0, hfz23_1⟩ := Sq.f2 BK176.out; have p179 : 0 ≤ (x6_2 : Int) := of_decide_eq_true (by first | (with_reducible assumption) | assumption); have q179 : x6_2 < (l0_0.length : Int) := of_decide_eq_true (by first | (with_reducible assumption) | assumption); obtain ⟨ad179, e179, hx179_0, hx179_1, hx179_2, hx179_3⟩ := at_T55 HR0_0.out x6_2 p179 q179; obtain rfl : ad177 = ad179 := (by injection e179); replace hx179_0 := (HB.out.cell (World.block_lt_of_cell? w _ hx179_0)).trans hx179_0; replace hx179_1 := (HB.out.cell (World.block_lt_of_cell? w _ hx179_1)).trans hx179_1; replace hx179_2 := (HB.out.cell (World.block_lt_of_cell? w _ hx179_2)).trans hx179_2; replace hx179_3 := (HB.out.cell (World.block_lt_of_cell? w _ hx179_3)).trans hx179_3; replace p179 := eq_true p179; replace q179 := eq_true q179) | ((with_reducible refine gate_callee (f := 20) rfl ?_); refine goesL_ (some 42) rfl rfl Try.func20 (by kernel_rfl) rfl #[.agg #[.int .i64 ((rd_T55 l0_0 x6_2).f0), .int .i64 ((rd_T55 l0_0 x6_2).f1), .int .i64 ((rd_T55 l0_0 x6_2).f2), .int .i64 ((rd_T55 l0_0 x6_2).f3)]] rfl (by (try simp only [List.map_toArray, List.map_cons, List.map_nil]); first | done | rfl | (simp only [List.length_drop, List.length_take]; rfl)) ?_; (with_reducible refine (gimbalref8_Bytes.calls k2 ((rd_T55 l0_0 x6_2).f0) ((rd_T55 l0_0 x6_2).f1) ((rd_T55 l0_0 x6_2).f2) ((rd_T55 l0_0 x6_2).f3) t180 _ A12.out).mono ?_); rintro e w24 ⟨v181, rfl, ho0, hb⟩; refine ⟨_, rfl, ?_⟩; have n0_ := Aside0.mk (Kd.R_elder' (Sq.rR HO_3.out) (Kd.R_base ho0) hb); have n1_ := Aside0.mk (Kd.R_below (Sq.rR HO_4.out) hb); have n2_ := Aside0.mk (Kd.R_lower (Kd.R_new' ho0 (Kd.R_lt (Sq.rR HO_3.out))) (below_size (Sq.w HB.out))); have n3_ := Aside0.mk (blk_below (Sq.b BK176.out) hb); have n4_ := Aside0.mk (below_step (Sq.w HB.out) hb); clear HO_3; clear HO_4; clear BK176; clear HB; have HO_3 := n0_; have HO_4 := n1_; have HO182 := n2_; have BK176 := n3_; have HB := n4_; clear n0_ n1_ n2_ n3_ n4_; (try clear hb); (try clear hb2); (try clear hk); (try clear hi); (try clear ho0); obtain ⟨hcz25_0, hcz25_1⟩ := Sq.c2 BK176.out; obtain ⟨hfz25_0, hfz25_1⟩ := Sq.f2 BK176.out) | ((with_reducible refine gate_callee (f := 17) rfl ?_); refine goesL_ (some 47) rfl rfl Try.func17 (by kernel_rfl) rfl #[.int .i64 (wrap64 (a0_1 + x6_2)), .int .i64 4] rfl (by (try simp only [List.map_toArray, List.map_cons, List.map_nil]); first | done | rfl | (simp only [List.length_drop, List.length_take]; rfl)) ?_; (with_reducible refine (gimballaw0_Within.calls (wrap64 (a0_1 + x6_2)) 4 t183 _ A13.out).mono ?_); rintro e w' ⟨rfl, ⟨nd, rfl⟩⟩; refine ⟨_, rfl, ?_⟩; (try (rw [drewN_self w24]; generalize hq_ : World.drewN w24 _ = w24; have n0_ : Aside0 (Kd.R (Kd.int .u8) 5 w24 w.heap.size (fun k_ => some k_ ≠ (u3 : Value).ownBlock) v181 t180) := ⟨by rw [← hq_]; exact (Sq.rR (Kd.R_mono HO182.out (fun _ hk => hk.2)))⟩; have n1_ : Aside0 (Kd.R (Kd.int .u8) 5 w24 w.heap.size (fun k_ => some k_ ≠ (v181 : Value).ownBlock) u3 x3_2) := ⟨by rw [← hq_]; exact (Sq.rR (Kd.R_mono HO_3.out (fun _ hk => hk.2)))⟩; have n2_ : Aside0 (Kd.R k55 55 w24 w.heap.size (fun _ => True) u4 x4_2) := ⟨by rw [← hq_]; exact (Sq.rR HO_4.out)⟩; have n3_ : Aside0 (w24.heap[gb176]? = some (.cells #[.slice (some ad177) l0_0.length c0_0, .int .i64 a0_1] 52 (0, 0))) := ⟨by rw [← hq_]; exact (Sq.b BK176.out)⟩; have n4_ : Aside0 (Below w.heap.size w w24) := ⟨by rw [← hq_]; exact (Sq.w HB.out)⟩; clear HO182 HO_3 HO_4 BK176 HB hq_; have HO182 := n0_; have HO_3 := n1_; have HO_4 := n2_; have BK176 := n3_; have HB := n4_; clear n0_ n1_ n2_ n3_ n4_)); obtain ⟨Ao26, co26, eo26⟩ := Kd.R_slice HO182.out; subst eo26))
                          have n0_ := Aside0.mk (Kd.R_drew HO_3.out)
                          have n1_ := Aside0.mk (Kd.R_drew HO_4.out)
                          have n2_ := Aside0.mk (Kd.R_drew HO182.out)
                          have n3_ := Aside0.mk (blk_drew BK176.out)
                          have n4_ := Aside0.mk (below_drew1 HB.out)
                          clear HO_3 HO_4 HO182 BK176 HB; have HO_3 := n0_; have HO_4 := n1_; have HO182 := n2_; have BK176 := n3_; have HB := n4_; clear n0_ n1_ n2_ n3_ n4_
                          have p185 : 0 ≤ (t184 : Int) := of_decide_eq_true (by first | (with_reducible assumption) | assumption)
                          have q185 : t184 < (t180.length : Int) := of_decide_eq_true (by first | (with_reducible assumption) | assumption)
                          obtain ⟨ad185, e185, hx185_0⟩ := Kd.at_int (Kd.R_reads' HO182.out).2.2 t184 p185 q185
                          cases e185
                          replace p185 := eq_true p185
                          replace q185 := eq_true q185
                          refine start_ (n := 14) (S := fun w' => w'.cell? ⟨gb176, 0, none⟩ = some (.slice (some ad177) l0_0.length c0_0) ∧ w'.cell? ⟨gb176, 1, none⟩ = some (.int .i64 a0_1) ∧ w'.cell? (ad185.add (t184).toNat) = some (.int .u8 (rd t180 t184))) (ds := [13]) #[false, false, false, false, false, false, false, false, false, false, false, false, false, false] (by kernel_rfl) rfl rfl ⟨(blk_cell BK176.out 0).trans rfl, (blk_cell BK176.out 1).trans rfl, hx185_0⟩ (fun hHeld => ?_); refine with_tabW gimballaw9_DrvSamples.tab13 gimballaw9_DrvSamples.bits13 (fun HT_ HW_ => ?_)
                          generalize w24.drew = w27 at HO_3 HO_4 HO182 BK176 HB hx185_0 hHeld ⊢
                          refine pure_ (i := 0) (N := some 49) (v := ?_) (a' := ?_) #[true, false, false, false, false, false, false, false, false, false, false, false, false, false] rfl rfl (any_of HT_.out (by kernel_rfl)) (fun _ _ _ h => h) (Or.inl ⟨by rfl, ?_⟩) ?_ ?_
                          rotate_left
                          · intro w'; go_simp; with_reducible rfl
                          rotate_left
                          · simp only [Act.put, List.setIfInBounds_toArray, List.set_cons_zero, List.set_cons_succ, i64_w, i32_w]; rfl
                          refine pure_ (i := 1) (N := some 50) (v := ?_) (a' := ?_) #[true, true, false, false, false, false, false, false, false, false, false, false, false, false] rfl rfl (any_of HT_.out (by kernel_rfl)) (fun _ _ _ h => h) (Or.inl ⟨by rfl, ?_⟩) ?_ ?_
                          rotate_left
                          · intro w'; go_simp; with_reducible rfl
                          rotate_left
                          · simp only [Act.put, List.setIfInBounds_toArray, List.set_cons_zero, List.set_cons_succ, i64_w, i32_w]; rfl
                          refine pure_ (i := 6) (N := some 55) (v := ?_) (a' := ?_) #[true, true, false, false, false, false, true, false, false, false, false, false, false, false] rfl rfl (any_of HT_.out (by kernel_rfl)) (fun _ _ _ h => h) (Or.inl ⟨by rfl, ?_⟩) ?_ ?_
                          rotate_left
                          · intro w'; go_simp; with_reducible rfl
                          rotate_left
                          · simp only [Act.put, List.setIfInBounds_toArray, List.set_cons_zero, List.set_cons_succ, i64_w, i32_w]; rfl
                          refine take_ (i := 2) (N := some 51) (v := ?_) (a' := ?_) #[true, true, true, false, false, false, true, false, false, false, false, false, false, false] rfl rfl (take_ofW HT_.out HW_.out (by kernel_rfl)) (fun _ _ _ h => h) (Or.inl ⟨by rfl, ?_⟩) hHeld ?_ ?_
                          rotate_left
                          · rintro w' ⟨s0, s1, s2⟩
                            go_simp
                            with_reducible rfl
                          rotate_left
                          · simp only [Act.put, List.setIfInBounds_toArray, List.set_cons_zero, List.set_cons_succ, i64_w, i32_w]; rfl
                          refine take_ (i := 7) (N := some 56) (v := ?_) (a' := ?_) #[true, true, true, false, false, false, true, true, false, false, false, false, false, false] rfl rfl (take_ofW HT_.out HW_.out (by kernel_rfl)) (fun _ _ _ h => h) (Or.inl ⟨by rfl, ?_⟩) hHeld ?_ ?_
                          rotate_left
                          · rintro w' ⟨s0, s1, s2⟩
                            go_simp
                            with_reducible rfl
                          rotate_left
                          · simp only [Act.put, List.setIfInBounds_toArray, List.set_cons_zero, List.set_cons_succ, i64_w, i32_w]; rfl
                          refine one_ (i := 3) (N := some 52) #[true, true, true, true, false, false, true, true, false, false, false, false, false, false] rfl rfl (one_of HT_.out (by kernel_rfl)) (by decide) (fun K hK => ?_)
                          refine goes_ Try.func17 (by kernel_rfl) rfl #[.int .i64 a0_1, .int .i64 8] (by rfl) rfl rfl (by (try simp only [List.map_toArray, List.map_cons, List.map_nil]); first | done | rfl | (simp only [List.length_drop, List.length_take]; rfl)) ?_
                          with_reducible refine (gimballaw0_Within.calls a0_1 8 t184 _ A15.out).mono ?_
                          rintro e w' ⟨rfl, ⟨nd, rfl⟩⟩
                          refine ⟨_, rfl, ?_⟩
                          refine hK.out _ _ ⟨(blk_cell BK176.out 0).trans rfl, (blk_cell BK176.out 1).trans rfl, hHeld.2.2⟩ (fun hHeld => ?_)
                          clear hK K
                          refine norm_ (a' := ?_) ?_ ?_
                          rotate_left
                          · show Act.put _ (some 52) _ = _; simp only [Act.put, List.setIfInBounds_toArray, List.set_cons_zero, List.set_cons_succ, i64_w, i32_w]; rfl
                          refine pure_ (i := 4) (N := some 53) (v := ?_) (a' := ?_) #[true, true, true, true, true, false, true, true, false, false, false, false, false, false] rfl rfl (any_of HT_.out (by kernel_rfl)) (fun _ _ _ h => h) (Or.inl ⟨by rfl, ?_⟩) ?_ ?_
                          rotate_left
                          · intro w'; go_simp; with_reducible rfl
                          rotate_left
                          · simp only [Act.put, List.setIfInBounds_toArray, List.set_cons_zero, List.set_cons_succ, i64_w, i32_w]; rfl
                          refine take_ (i := 5) (N := some 54) (v := ?_) (a' := ?_) #[true, true, true, true, true, true, true, true, false, false, false, false, false, false] rfl rfl (take_ofW HT_.out HW_.out (by kernel_rfl)) (fun _ _ _ h => h) (Or.inl ⟨by rfl, ?_⟩) hHeld ?_ ?_
                          rotate_left
                          · rintro w' ⟨s0, s1, s2⟩
                            go_simp
                            with_reducible rfl
                          rotate_left
                          · simp only [Act.put, List.setIfInBounds_toArray, List.set_cons_zero, List.set_cons_succ, i64_w, i32_w]; rfl
                          refine one_ (i := 8) (N := some 57) #[true, true, true, true, true, true, true, true, true, false, false, false, false, false] rfl rfl (one_of HT_.out (by kernel_rfl)) (by decide) (fun K hK => ?_)
                          refine goes_ Try.func17 (by kernel_rfl) rfl #[.int .i64 a0_1, .int .i64 255] (by rfl) rfl rfl (by (try simp only [List.map_toArray, List.map_cons, List.map_nil]); first | done | rfl | (simp only [List.length_drop, List.length_take]; rfl)) ?_
                          with_reducible refine (gimballaw0_Within.calls a0_1 255 t186 _ A18.out).mono ?_
                          rintro e w' ⟨rfl, ⟨nd, rfl⟩⟩
                          refine ⟨_, rfl, ?_⟩
                          have p19 : 0 ≤ (t184 : Int) := of_decide_eq_true (by first | (with_reducible assumption) | assumption)
                          have q19 : (t184 : Int) < ((t180.length : Int) : Int) := of_decide_eq_true (by first | (with_reducible assumption) | assumption)
                          obtain ⟨go19, co19, eo19, gb19, gl19, cl19, HG19⟩ := Kd.R_form HO182.out (by omega)
                          (first | cases eo19 | (injection eo19 with ea_ en_ ec_; (first | subst ea_ | (injection ea_ with ea_; subst ea_)); subst ec_; clear en_))
                          have GB19 := Aside0.mk gb19
                          have GG19 := Aside0.mk HG19
                          clear gb19 gl19 HG19
                          (first | simp only [add_plain] at hx185_0 | skip)
                          obtain ⟨hx19_0, hf19_0⟩ := Kd.R_celln 0 HO182.out (t184 : Int) p19 q19
                          replace p19 := eq_true p19
                          replace q19 := eq_true q19
                          have HP28 := Kd.R_putn HO182.out (t184 : Int) (Go.bits .xor .u8 (rd t180 t184) ((wrap64 (1 + t186)) % 256))
                          rw [← Ny187.out] at HP28
                          have HQ28 := Aside0.mk HP28
                          clear HP28
                          refine hK.out _ _ ⟨(blk_cell BK176.out 0).trans rfl, (blk_cell BK176.out 1).trans rfl, hHeld.2.2⟩ (fun hHeld => ?_)
                          clear hK K
                          refine norm_ (a' := ?_) ?_ ?_
                          rotate_left
                          · show Act.put _ (some 57) _ = _; simp only [Act.put, List.setIfInBounds_toArray, List.set_cons_zero, List.set_cons_succ, i64_w, i32_w]; rfl
                          refine pure_ (i := 9) (N := some 58) (v := ?_) (a' := ?_) #[true, true, true, true, true, true, true, true, true, true, false, false, false, false] rfl rfl (any_of HT_.out (by kernel_rfl)) (fun _ _ _ h => h) (Or.inl ⟨by rfl, ?_⟩) ?_ ?_
                          rotate_left
                          · intro w'; go_simp; with_reducible rfl
                          rotate_left
                          · simp only [Act.put, List.setIfInBounds_toArray, List.set_cons_zero, List.set_cons_succ, i64_w, i32_w]; rfl
                          refine pure_ (i := 10) (N := some 59) (v := ?_) (a' := ?_) #[true, true, true, true, true, true, true, true, true, true, true, false, false, false] rfl rfl (any_of HT_.out (by kernel_rfl)) (fun _ _ _ h => h) (Or.inl ⟨by rfl, ?_⟩) ?_ ?_
                          rotate_left
                          · intro w'; go_simp; with_reducible rfl
                          rotate_left
                          · simp only [Act.put, List.setIfInBounds_toArray, List.set_cons_zero, List.set_cons_succ, i64_w, i32_w]; rfl
                          refine pure_ (i := 11) (N := some 60) (v := ?_) (a' := ?_) #[true, true, true, true, true, true, true, true, true, true, true, true, false, false] rfl rfl (any_of HT_.out (by kernel_rfl)) (fun _ _ _ h => h) (Or.inl ⟨by rfl, ?_⟩) ?_ ?_
                          rotate_left
                          · intro w'; go_simp; with_reducible rfl
                          rotate_left
                          · simp only [Act.put, List.setIfInBounds_toArray, List.set_cons_zero, List.set_cons_succ, i64_w, i32_w]; rfl
                          refine pure_ (i := 12) (N := some 61) (v := ?_) (a' := ?_) #[true, true, true, true, true, true, true, true, true, true, true, true, true, false] rfl rfl (any_of HT_.out (by kernel_rfl)) (fun _ _ _ h => h) (Or.inl ⟨by rfl, ?_⟩) ?_ ?_
                          rotate_left
                          · intro w'; go_simp; with_reducible rfl
                          rotate_left
                          · simp only [Act.put, List.setIfInBounds_toArray, List.set_cons_zero, List.set_cons_succ, i64_w, i32_w]; rfl
                          refine last_ (i := 13) (N := none) #[true, true, true, true, true, true, true, true, true, true, true, true, true, true] rfl rfl (one_of HT_.out (by kernel_rfl)) (by decide) (fun K hK => ?_)
                          refine skip_ (w1 := ?_) (by rfl) rfl ?_ ?_
                          rotate_left
                          · go_simp
                            rfl
                          refine hK.out _ _ ?_
                          clear hK K
                          refine done_ (done_of HT_.out (by kernel_rfl)) ?_
                          simp only [show ∀ (w : World) (n : Nat) (p : Addr) (u : Value), (w.drewN n).setCell p u = (w.setCell p u).drewN n from fun _ _ _ _ => rfl]
                          replace HQ28 := Aside0.mk (Kd.R_mono (ok' := fun k_ => True ∧ some k_ ≠ (u3 : Value).ownBlock) HQ28.out (fun _ h_ => ⟨trivial, h_⟩))
                          replace HO_3 := Aside0.mk (Kd.R_mono (ok' := fun k_ => True ∧ some k_ ≠ (.slice (some ⟨go19, 0, none⟩) t180.length co26 : Value).ownBlock) HO_3.out (fun _ h_ => ⟨trivial, h_⟩))
                          try go_wp2_with (first | ((with_reducible refine gate_builtin (b := .append) (xs := #[.tmp 72, .tmp 73]) rfl ?_); (try (refine gate_guard (by rfl) ?_; dsimp only)); at_builtin; refine Kd.R_append_rows (Kd.int .u8) (w0 := w) w.heap.size rfl (.tmp 72) (.tmp 73) 25 5 (.int .u8 0) 1 rfl Try.underlying25 info5 rfl (by decide) (by omega) u3 x3_2 y187 _ _ _ (fun k_ => some k_ ≠ (.slice (some ⟨go19, 0, none⟩) t180.length co26 : Value).ownBlock) (fun _ => False) rfl rfl ?aO ?aR (fun _ _ h => h) (fun _ h => h.elim) ?aF ?aB ?aS ?aL ?_; (case aR => rw [show t180.length = y187.length from (Kd.R_reads' HQ28.out).1]; refine (Kd.R_reads' (e := 5) (base := w.heap.size) (ok := fun k_ => (True ∧ some k_ ≠ (u3 : Value).ownBlock)) (n := t180.length) (c := co26) ?_).2.2; exact (Sq.rR HQ28.out)); (case aB => exact (by repeat (first | (with_reducible first | exact HB.out | apply below_alloc | apply pw_below_drewN | apply below_drew1 | refine below_set ?_ GB19.out | refine below_set ?_ GE176.out) | exact HB.out))); (case aF => exact (fun k_ hk => Kd.fresh' (Kd.R_lt (Sq.rR HQ28.out)) k_ hk)); (case aO => exact (by (with_reducible repeat (first | apply Kd.R_alloc | apply Kd.R_drewN | apply Kd.R_drew)); exact Kd.R_mono (Kd.R_far (p := ⟨go19, (t184 : Int).toNat, none⟩) (Kd.R_mono HO_3.out (fun k_ hk => (⟨hk, fun e_ => hk.2 (by rw [e_]; rfl)⟩ : _ ∧ k_ ≠ go19))) (fun _ hk => hk.2) (.int .u8 (Go.bits .xor .u8 (rd t180 t184) ((wrap64 (1 + t186)) % 256)))) (fun _ hk => hk.1.2))); (case aS => exact (below_size (by repeat (first | (with_reducible first | exact HB.out | apply below_alloc | apply pw_below_drewN | apply below_drew1 | refine below_set ?_ GB19.out | refine below_set ?_ GE176.out) | exact HB.out)))); (case aL => have := LMc20.out; have hlx_ := (Kd.R_reads' HQ28.out).1; omega); intro v189 w29 ho hb hg hat; rw [← Ny188.out] at ho; have n0_ := Aside0.mk (Kd.R_over' (Sq.rR ((Kd.R_mono (Kd.R_far (p := ⟨go19, (t184 : Int).toNat, none⟩) (Kd.R_types HO_4.out GG19.out (by decide)) (fun _ hk => hk.2) (.int .u8 (Go.bits .xor .u8 (rd t180 t184) ((wrap64 (1 + t186)) % 256)))) (fun _ h_ => h_.1)))) (Kd.R_typed (by (with_reducible repeat (first | apply Kd.R_alloc | apply Kd.R_drewN | apply Kd.R_drew)); exact (Kd.R_mono (Kd.R_far (p := ⟨go19, (t184 : Int).toNat, none⟩) (Kd.R_mono HO_3.out (fun k_ hk => (⟨hk, fun e_ => hk.2 (by rw [e_]; rfl)⟩ : _ ∧ k_ ≠ go19))) (fun _ hk => hk.2) (.int .u8 (Go.bits .xor .u8 (rd t180 t184) ((wrap64 (1 + t186)) % 256)))) (fun _ h_ => h_.1)))) (by decide) hg); have n1_ := Aside0.mk (blk_grown (g := gb176) (o := .cells #[.slice (some ad177) l0_0.length c0_0, .int .i64 a0_1] 52 (0, 0)) (by (with_reducible repeat (first | refine blk_drewN ?_ _ | refine blk_drew ?_ | refine blk_alloc ?_ _)); refine blk_far ?_ (by have h_ := Kd.R_ne HO182.out BK176.out (by decide); intro e_; exact h_ (by rw [e_]; rfl)) _; (with_reducible repeat (first | refine blk_drewN ?_ _ | refine blk_drew ?_ | refine blk_alloc ?_ _)); exact BK176.out) hg (Kd.R_ne HO_3.out BK176.out (by decide))); have n2_ := Aside0.mk (Kd.R_after (ok := (fun _ => True)) (Sq.rR HQ28.out) hg hat); have n3_ := Aside0.mk (hb); have n4_ := Aside0.mk (ho); clear HO_4; clear BK176; clear HO182; clear HB; clear HO_3; have HO_4 := n0_; have BK176 := n1_; have HO182 := n2_; have HB := n3_; have HO190 := n4_; clear n0_ n1_ n2_ n3_ n4_; clear ho hb hg hat))
                          go_roundg k2
                          case measure => have := HJ1.out; have := HK2.out; omega
                          case rel => exact ⟨(y188), (x4_2), (wrap64 (x5_2 + 1)), (wrap64 (x6_2 + 1)), (by first | rfl | (simp; done) | (simp [*]; done)), (by first | rfl | (simp; done) | (simp [*]; done)), H', ⟨by have := HJ1.out; have := HK2.out; omega⟩, ⟨Sq.rR (Kd.R_mono HO190.out (fun _ hk => trivial))⟩, ⟨Sq.rR HO_4.out⟩, ⟨Sq.b BK176.out⟩, ⟨Sq.w HB.out⟩⟩
                        · rw [if_neg c20] at H
                          exact absurd H (by simp)
                      · rw [if_neg c17] at H
                        exact absurd H (by simp)
                    · rw [if_neg c16] at H
                      exact absurd H (by simp)
                  · rw [if_neg c14] at H
                    have c14b0 : (t183 == 0) = false := beq_eq_false_iff_ne.mpr c14
                    have c14b1 : (t183 != 0) = true := bne_iff_ne.mpr c14
                    by_cases c30 : x4_2.length < 4398046511104
                    · rw [if_pos c30] at H
                      have LMc30 := Aside0.mk c30
                      clear c30
                      obtain ⟨y192, hy192⟩ : ∃ y_ : List (S55), y_ = (x4_2 ++ [(⟨(rd_T55 l0_0 x6_2).f0, (rd_T55 l0_0 x6_2).f1, (rd_T55 l0_0 x6_2).f2, (rd_T55 l0_0 x6_2).f3⟩ : S55)]) := ⟨_, rfl⟩
                      replace H : (if x3_2.length + t180.length < 140737488355328 then (gimballaw9_DrvSamples.l0 k2 (x3_2 ++ t180) y192 x5_2 (wrap64 (x6_2 + 1)) l0_0 a0_1) else (none)) = some r := by first | (rw [hy192]; with_reducible exact H) | (have H2_ := (Option.bind_some _ _).symm.trans H; rw [hy192]; with_reducible exact H2_) | (have H2_ := (Option.bind_some _ _).symm.trans H; with_reducible exact H2_) | with_reducible exact H | (rw [hy192]; exact H) | exact H
                      have Ny192 := Aside0.mk hy192
                      clear hy192
                      by_cases c31 : x3_2.length + t180.length < 140737488355328
                      · rw [if_pos c31] at H
                        have LMc31 := Aside0.mk c31
                        clear c31
                        obtain ⟨y195, hy195⟩ : ∃ y_ : List Int, y_ = (x3_2 ++ t180) := ⟨_, rfl⟩
                        replace H : (gimballaw9_DrvSamples.l0 k2 y195 y192 x5_2 (wrap64 (x6_2 + 1)) l0_0 a0_1) = some r := by first | (rw [hy195]; with_reducible exact H) | (have H2_ := (Option.bind_some _ _).symm.trans H; rw [hy195]; with_reducible exact H2_) | (have H2_ := (Option.bind_some _ _).symm.trans H; with_reducible exact H2_) | with_reducible exact H | (rw [hy195]; exact H) | exact H
                        have Ny195 := Aside0.mk hy195
                        clear hy195
                        have H' := Aside0.mk H
                        clear H
                        obtain ⟨hcz32_0, hcz32_1⟩ := Sq.c2 BK176.out
                        obtain ⟨hfz32_0, hfz32_1⟩ := Sq.f2 BK176.out
                        have p177 : 0 ≤ (x6_2 : Int) := of_decide_eq_true (by first | (with_reducible assumption) | assumption)
                        have q177 : x6_2 < (l0_0.length : Int) := of_decide_eq_true (by first | (with_reducible assumption) | assumption)
                        obtain ⟨ad177, e177, hx177_0, hx177_1, hx177_2, hx177_3⟩ := at_T55 HR0_0.out x6_2 p177 q177
                        cases e177
                        replace hx177_0 := (HB.out.cell (World.block_lt_of_cell? w _ hx177_0)).trans hx177_0
                        replace hx177_1 := (HB.out.cell (World.block_lt_of_cell? w _ hx177_1)).trans hx177_1
                        replace hx177_2 := (HB.out.cell (World.block_lt_of_cell? w _ hx177_2)).trans hx177_2
                        replace hx177_3 := (HB.out.cell (World.block_lt_of_cell? w _ hx177_3)).trans hx177_3
                        replace p177 := eq_true p177
                        replace q177 := eq_true q177
                        go_wp2_with (first | ((with_reducible refine gate_callee (f := 19) rfl ?_); refine goesL_ (some 35) rfl rfl Try.func19 (by kernel_rfl) rfl #[.agg #[.int .i64 ((rd_T55 l0_0 x6_2).f0), .int .i64 ((rd_T55 l0_0 x6_2).f1), .int .i64 ((rd_T55 l0_0 x6_2).f2), .int .i64 ((rd_T55 l0_0 x6_2).f3)]] rfl (by (try simp only [List.map_toArray, List.map_cons, List.map_nil]); first | done | rfl | (simp only [List.length_drop, List.length_take]; rfl)) ?_; (with_reducible refine (gimbalref8_MayRaw.calls ((rd_T55 l0_0 x6_2).f0) ((rd_T55 l0_0 x6_2).f1) ((rd_T55 l0_0 x6_2).f2) ((rd_T55 l0_0 x6_2).f3) true _ A10.out).mono ?_); rintro e w33 ⟨rfl, hb⟩; refine ⟨_, rfl, ?_⟩; have n0_ := Aside0.mk (Kd.R_below (Sq.rR HO_3.out) hb); have n1_ := Aside0.mk (Kd.R_below (Sq.rR HO_4.out) hb); have n2_ := Aside0.mk (blk_below (Sq.b BK176.out) hb); have n3_ := Aside0.mk (below_step (Sq.w HB.out) hb); clear HO_3; clear HO_4; clear BK176; clear HB; have HO_3 := n0_; have HO_4 := n1_; have BK176 := n2_; have HB := n3_; clear n0_ n1_ n2_ n3_; (try clear hb); (try clear hb2); (try clear hk); (try clear hi); obtain ⟨hcz34_0, hcz34_1⟩ := Sq.c2 BK176.out; obtain ⟨hfz34_0, hfz34_1⟩ := Sq.f2 BK176.out; have p179 : 0 ≤ (x6_2 : Int) := of_decide_eq_true (by first | (with_reducible assumption) | assumption); have q179 : x6_2 < (l0_0.length : Int) := of_decide_eq_true (by first | (with_reducible assumption) | assumption); obtain ⟨ad179, e179, hx179_0, hx179_1, hx179_2, hx179_3⟩ := at_T55 HR0_0.out x6_2 p179 q179; obtain rfl : ad177 = ad179 := (by injection e179); replace hx179_0 := (HB.out.cell (World.block_lt_of_cell? w _ hx179_0)).trans hx179_0; replace hx179_1 := (HB.out.cell (World.block_lt_of_cell? w _ hx179_1)).trans hx179_1; replace hx179_2 := (HB.out.cell (World.block_lt_of_cell? w _ hx179_2)).trans hx179_2; replace hx179_3 := (HB.out.cell (World.block_lt_of_cell? w _ hx179_3)).trans hx179_3; replace p179 := eq_true p179; replace q179 := eq_true q179) | ((with_reducible refine gate_callee (f := 20) rfl ?_); refine goesL_ (some 42) rfl rfl Try.func20 (by kernel_rfl) rfl #[.agg #[.int .i64 ((rd_T55 l0_0 x6_2).f0), .int .i64 ((rd_T55 l0_0 x6_2).f1), .int .i64 ((rd_T55 l0_0 x6_2).f2), .int .i64 ((rd_T55 l0_0 x6_2).f3)]] rfl (by (try simp only [List.map_toArray, List.map_cons, List.map_nil]); first | done | rfl | (simp only [List.length_drop, List.length_take]; rfl)) ?_; (with_reducible refine (gimbalref8_Bytes.calls k2 ((rd_T55 l0_0 x6_2).f0) ((rd_T55 l0_0 x6_2).f1) ((rd_T55 l0_0 x6_2).f2) ((rd_T55 l0_0 x6_2).f3) t180 _ A12.out).mono ?_); rintro e w35 ⟨v181, rfl, ho0, hb⟩; refine ⟨_, rfl, ?_⟩; have n0_ := Aside0.mk (Kd.R_elder' (Sq.rR HO_3.out) (Kd.R_base ho0) hb); have n1_ := Aside0.mk (Kd.R_below (Sq.rR HO_4.out) hb); have n2_ := Aside0.mk (Kd.R_lower (Kd.R_new' ho0 (Kd.R_lt (Sq.rR HO_3.out))) (below_size (Sq.w HB.out))); have n3_ := Aside0.mk (blk_below (Sq.b BK176.out) hb); have n4_ := Aside0.mk (below_step (Sq.w HB.out) hb); clear HO_3; clear HO_4; clear BK176; clear HB; have HO_3 := n0_; have HO_4 := n1_; have HO182 := n2_; have BK176 := n3_; have HB := n4_; clear n0_ n1_ n2_ n3_ n4_; (try clear hb); (try clear hb2); (try clear hk); (try clear hi); (try clear ho0); obtain ⟨hcz36_0, hcz36_1⟩ := Sq.c2 BK176.out; obtain ⟨hfz36_0, hfz36_1⟩ := Sq.f2 BK176.out) | ((with_reducible refine gate_callee (f := 17) rfl ?_); refine goesL_ (some 47) rfl rfl Try.func17 (by kernel_rfl) rfl #[.int .i64 (wrap64 (a0_1 + x6_2)), .int .i64 4] rfl (by (try simp only [List.map_toArray, List.map_cons, List.map_nil]); first | done | rfl | (simp only [List.length_drop, List.length_take]; rfl)) ?_; (with_reducible refine (gimballaw0_Within.calls (wrap64 (a0_1 + x6_2)) 4 t183 _ A13.out).mono ?_); rintro e w' ⟨rfl, ⟨nd, rfl⟩⟩; refine ⟨_, rfl, ?_⟩; have p191 : 0 ≤ (x6_2 : Int) := of_decide_eq_true (by first | (with_reducible assumption) | assumption); have q191 : x6_2 < (l0_0.length : Int) := of_decide_eq_true (by first | (with_reducible assumption) | assumption); obtain ⟨ad191, e191, hx191_0, hx191_1, hx191_2, hx191_3⟩ := at_T55 HR0_0.out x6_2 p191 q191; obtain rfl : ad177 = ad191 := (by injection e191); replace hx191_0 := (HB.out.cell (World.block_lt_of_cell? w _ hx191_0)).trans hx191_0; replace hx191_1 := (HB.out.cell (World.block_lt_of_cell? w _ hx191_1)).trans hx191_1; replace hx191_2 := (HB.out.cell (World.block_lt_of_cell? w _ hx191_2)).trans hx191_2; replace hx191_3 := (HB.out.cell (World.block_lt_of_cell? w _ hx191_3)).trans hx191_3; replace p191 := eq_true p191; replace q191 := eq_true q191) | ((with_reducible refine gate_builtin (b := .append) (xs := #[.tmp 64, .tmp 70]) rfl ?_); (try (refine gate_guard (by rfl) ?_; dsimp only)); at_builtin; refine Kd.R_append k55 (w0 := w) w.heap.size rfl (.tmp 64) (.tmp 70) 47 55 (.agg #[(.int .i64 0), (.int .i64 0), (.int .i64 0), (.int .i64 0)]) 32 rfl Try.underlying47 info55 rfl (by decide) (by omega) u4 x4_2 (⟨(rd_T55 l0_0 x6_2).f0, (rd_T55 l0_0 x6_2).f1, (rd_T55 l0_0 x6_2).f2, (rd_T55 l0_0 x6_2).f3⟩ : S55) [.int .i64 ((rd_T55 l0_0 x6_2).f0), .int .i64 ((rd_T55 l0_0 x6_2).f1), .int .i64 ((rd_T55 l0_0 x6_2).f2), .int .i64 ((rd_T55 l0_0 x6_2).f3)] (fun _ => True) (fun _ => False) rfl rfl ?aP (fun _ hk => hk.elim) ?aF ?aO ?aB ?aS ?aL ?_; (case aP => exact k55_mkM _ _ _ (⟨(rd_T55 l0_0 x6_2).f0, (rd_T55 l0_0 x6_2).f1, (rd_T55 l0_0 x6_2).f2, (rd_T55 l0_0 x6_2).f3⟩ : S55)); (case aB => exact (Sq.w HB.out)); (case aF => exact (fun _ _ => trivial)); (case aO => exact (Sq.rR HO_4.out)); (case aS => exact (below_size (Sq.w HB.out))); (case aL => have := LMc30.out; omega); intro v193 w37 ho hb hg hat; rw [← Ny192.out] at ho; have n0_ := Aside0.mk (Kd.R_over' (Sq.rR HO_3.out) (Kd.R_typed (Sq.rR HO_4.out)) (by decide) hg); have n1_ := Aside0.mk (blk_grown (g := gb176) (o := .cells #[.slice (some ad177) l0_0.length c0_0, .int .i64 a0_1] 52 (0, 0)) (Sq.b BK176.out) hg (Kd.R_ne HO_4.out BK176.out (by decide))); have n2_ := Aside0.mk (Kd.R_over' (Sq.rR HO182.out) (Kd.R_typed (Sq.rR HO_4.out)) (by decide) hg); have n3_ := Aside0.mk (hb); have n4_ := Aside0.mk (ho); clear HO_3; clear BK176; clear HO182; clear HB; clear HO_4; have HO_3 := n0_; have BK176 := n1_; have HO182 := n2_; have HB := n3_; have HO194 := n4_; clear n0_ n1_ n2_ n3_ n4_; clear ho hb hg hat; obtain ⟨Ao39, co39, eo39⟩ := Kd.R_slice HO182.out; subst eo39) | ((with_reducible refine gate_builtin (b := .append) (xs := #[.tmp 72, .tmp 73]) rfl ?_); (try (refine gate_guard (by rfl) ?_; dsimp only)); at_builtin; refine Kd.R_append_rows (Kd.int .u8) (w0 := w) w.heap.size rfl (.tmp 72) (.tmp 73) 25 5 (.int .u8 0) 1 rfl Try.underlying25 info5 rfl (by decide) (by omega) u3 x3_2 t180 _ _ _ (fun k_ => some k_ ≠ (.slice Ao39 t180.length co39 : Value).ownBlock) (fun _ => False) rfl rfl ?aO ?aR (fun _ _ h => h) (fun _ h => h.elim) ?aF ?aB ?aS ?aL ?_; (case aR => repeat (first | exact (Kd.R_reads' HO182.out).2.2 | (with_reducible refine Kd.C_alloc ?_ _) | (with_reducible refine Kd.C_drewN ?_ _) | (with_reducible refine Kd.C_drew ?_))); (case aB => exact (Sq.w HB.out)); (case aF => exact (fun k_ hk => Kd.fresh' (Kd.R_lt (Sq.rR HO182.out)) k_ hk)); (case aO => exact (Sq.rR (Kd.R_mono HO_3.out (fun _ hk => hk.2)))); (case aS => exact (below_size (Sq.w HB.out))); (case aL => have := LMc31.out; omega); intro v196 w38 ho hb hg hat; rw [← Ny195.out] at ho; have n0_ := Aside0.mk (blk_grown (g := gb176) (o := .cells #[.slice (some ad177) l0_0.length c0_0, .int .i64 a0_1] 52 (0, 0)) (Sq.b BK176.out) hg (Kd.R_ne HO_3.out BK176.out (by decide))); have n1_ := Aside0.mk (Kd.R_after (ok := (fun _ => True)) (Sq.rR HO182.out) hg hat); have n2_ := Aside0.mk (Kd.R_over' (Sq.rR HO194.out) (Kd.R_typed (Sq.rR HO_3.out)) (by decide) hg); have n3_ := Aside0.mk (hb); have n4_ := Aside0.mk (ho); clear BK176; clear HO182; clear HO194; clear HB; clear HO_3; have BK176 := n0_; have HO182 := n1_; have HO194 := n2_; have HB := n3_; have HO197 := n4_; clear n0_ n1_ n2_ n3_ n4_; clear ho hb hg hat))
                        go_roundg k2
                        case measure => have := HJ1.out; have := HK2.out; omega
                        case rel => exact ⟨(y195), (y192), (x5_2), (wrap64 (x6_2 + 1)), (by first | rfl | (simp; done) | (simp [*]; done)), (by first | rfl | (simp; done) | (simp [*]; done)), H', ⟨by have := HJ1.out; have := HK2.out; omega⟩, ⟨Sq.rR (Kd.R_mono HO197.out (fun _ hk => trivial))⟩, ⟨Sq.rR HO194.out⟩, ⟨Sq.b BK176.out⟩, ⟨Sq.w HB.out⟩⟩
                      · rw [if_neg c31] at H
                        exact absurd H (by simp)
                    · rw [if_neg c30] at H
                      exact absurd H (by simp)
                · replace c11 := Bool.eq_false_iff.mpr c11
                  subst c11
                  have H1 : (some true) = some r := by rw [if_neg (show ¬ (false = true) by decide)] at H; exact H
                  clear H
                  have H := H1
                  clear H1
                  obtain rfl := Option.some.inj H
                  obtain ⟨hcz40_0, hcz40_1⟩ := Sq.c2 BK176.out
                  obtain ⟨hfz40_0, hfz40_1⟩ := Sq.f2 BK176.out
                  have p177 : 0 ≤ (x6_2 : Int) := of_decide_eq_true (by first | (with_reducible assumption) | assumption)
                  have q177 : x6_2 < (l0_0.length : Int) := of_decide_eq_true (by first | (with_reducible assumption) | assumption)
                  obtain ⟨ad177, e177, hx177_0, hx177_1, hx177_2, hx177_3⟩ := at_T55 HR0_0.out x6_2 p177 q177
                  cases e177
                  replace hx177_0 := (HB.out.cell (World.block_lt_of_cell? w _ hx177_0)).trans hx177_0
                  replace hx177_1 := (HB.out.cell (World.block_lt_of_cell? w _ hx177_1)).trans hx177_1
                  replace hx177_2 := (HB.out.cell (World.block_lt_of_cell? w _ hx177_2)).trans hx177_2
                  replace hx177_3 := (HB.out.cell (World.block_lt_of_cell? w _ hx177_3)).trans hx177_3
                  replace p177 := eq_true p177
                  replace q177 := eq_true q177
                  go_wp2_with (first | ((with_reducible refine gate_callee (f := 19) rfl ?_); refine goesL_ (some 35) rfl rfl Try.func19 (by kernel_rfl) rfl #[.agg #[.int .i64 ((rd_T55 l0_0 x6_2).f0), .int .i64 ((rd_T55 l0_0 x6_2).f1), .int .i64 ((rd_T55 l0_0 x6_2).f2), .int .i64 ((rd_T55 l0_0 x6_2).f3)]] rfl (by (try simp only [List.map_toArray, List.map_cons, List.map_nil]); first | done | rfl | (simp only [List.length_drop, List.length_take]; rfl)) ?_; (with_reducible refine (gimbalref8_MayRaw.calls ((rd_T55 l0_0 x6_2).f0) ((rd_T55 l0_0 x6_2).f1) ((rd_T55 l0_0 x6_2).f2) ((rd_T55 l0_0 x6_2).f3) false _ A10.out).mono ?_); rintro e w41 ⟨rfl, hb⟩; refine ⟨_, rfl, ?_⟩; have n0_ := Aside0.mk (Kd.R_below (Sq.rR HO_3.out) hb); have n1_ := Aside0.mk (Kd.R_below (Sq.rR HO_4.out) hb); have n2_ := Aside0.mk (blk_below (Sq.b BK176.out) hb); have n3_ := Aside0.mk (below_step (Sq.w HB.out) hb); clear HO_3; clear HO_4; clear BK176; clear HB; have HO_3 := n0_; have HO_4 := n1_; have BK176 := n2_; have HB := n3_; clear n0_ n1_ n2_ n3_; (try clear hb); (try clear hb2); (try clear hk); (try clear hi)))
                  go_ret
                  exact ⟨by first | rfl | (simp [errW_none, errW_some] <;> rfl) | (simp [*, errW_none, errW_some] <;> rfl), Sq.w HB.out⟩
              · rw [if_neg c9] at H
                exact absurd H (by simp)
            · rw [if_neg c8] at H
              have c8b0 : decide (x6_2 < (l0_0.length : Int)) = false := decide_eq_false c8
              clear c8
              replace H := Option.bind_eq_some_iff.mp H
              obtain ⟨⟨t199, t200, t201, t202, t203, t204, t205, t206, t207, t208, t211, t212⟩, A420, H⟩ := H
              replace H : ((gimballaw9_num.f t212).bind fun t214 => (if t214 = 0 then (if t211 = true then (some false) else (if t203 = 4 then (if t206 = 0 then (if t207 = x5_2 then ((gimbalref0_EqRaws.f k2 t208 x4_2).bind fun t215 => (if t215 = true then ((gimballaw9_wakes.f).bind fun t216 => (some t216)) else (some false))) else (some false)) else (some false)) else (some false))) else (some false))) = some r := H
              have A42 := Aside0.mk A420
              clear A420
              replace H := Option.bind_eq_some_iff.mp H
              obtain ⟨t214, A430, H⟩ := H
              replace H : (if t214 = 0 then (if t211 = true then (some false) else (if t203 = 4 then (if t206 = 0 then (if t207 = x5_2 then ((gimbalref0_EqRaws.f k2 t208 x4_2).bind fun t215 => (if t215 = true then ((gimballaw9_wakes.f).bind fun t216 => (some t216)) else (some false))) else (some false)) else (some false)) else (some false))) else (some false)) = some r := H
              have A43 := Aside0.mk A430
              clear A430
              by_cases c44 : t214 = 0
              · rw [if_pos c44] at H
                have c44b0 : (t214 == 0) = true := beq_iff_eq.mpr c44
                have c44b1 : (t214 != 0) = false := bne_eq_false_iff_eq.mpr c44
                clear c44
                by_cases c45 : t211 = true
                · subst c45
                  have H1 : (some false) = some r := by rw [if_pos rfl] at H; exact H
                  clear H
                  have H := H1
                  clear H1
                  exact absurd ((Option.some.inj H).trans hrt_.out) (by simp)
                · replace c45 := Bool.eq_false_iff.mpr c45
                  subst c45
                  have H1 : (if t203 = 4 then (if t206 = 0 then (if t207 = x5_2 then ((gimbalref0_EqRaws.f k2 t208 x4_2).bind fun t215 => (if t215 = true then ((gimballaw9_wakes.f).bind fun t216 => (some t216)) else (some false))) else (some false)) else (some false)) else (some false)) = some r := by rw [if_neg (show ¬ (false = true) by decide)] at H; exact H
                  clear H
                  have H := H1
                  clear H1
                  by_cases c46 : t203 = 4
                  · rw [if_pos c46] at H
                    have c46b0 : (t203 == 4) = true := beq_iff_eq.mpr c46
                    have c46b1 : (t203 != 4) = false := bne_eq_false_iff_eq.mpr c46
                    clear c46
                    by_cases c47 : t206 = 0
                    · rw [if_pos c47] at H
                      have c47b0 : (t206 == 0) = true := beq_iff_eq.mpr c47
                      have c47b1 : (t206 != 0) = false := bne_eq_false_iff_eq.mpr c47
                      clear c47
                      by_cases c48 : t207 = x5_2
                      · rw [if_pos c48] at H
                        have c48b0 : (t207 == x5_2) = true := beq_iff_eq.mpr c48
                        have c48b1 : (t207 != x5_2) = false := bne_eq_false_iff_eq.mpr c48
                        clear c48
                        replace H := Option.bind_eq_some_iff.mp H
                        obtain ⟨t215, A490, H⟩ := H
                        replace H : (if t215 = true then ((gimballaw9_wakes.f).bind fun t216 => (some t216)) else (some false)) = some r := H
                        have A49 := Aside0.mk A490
                        clear A490
                        by_cases c50 : t215 = true
                        · subst c50
                          have H1 : ((gimballaw9_wakes.f).bind fun t216 => (some t216)) = some r := by rw [if_pos rfl] at H; exact H
                          clear H
                          have H := H1
                          clear H1
                          replace H := Option.bind_eq_some_iff.mp H
                          obtain ⟨t216, A510, H⟩ := H
                          replace H : (some t216) = some r := H
                          have A51 := Aside0.mk A510
                          clear A510
                          obtain rfl := Option.some.inj H
                          obtain ⟨hcz52_0, hcz52_1⟩ := Sq.c2 BK176.out
                          obtain ⟨hfz52_0, hfz52_1⟩ := Sq.f2 BK176.out
                          go_wp2_with (first | ((with_reducible refine gate_dst (N := 8) rfl ?_); (try (refine gate_guard (by rfl) ?_; dsimp only)); refine box_event ?hg (N := 8) ?hd (cs := #[.int .i64 0, .int .i64 0, .bool false, .int .i64 0, .int .i64 0, .int .i64 0, .bool false, .int .i64 0, .int .i64 0]) (t := 24) ?hr ?_; (case hd => rfl); (case hg => rfl); (case hr => first | (go_simp; done) | (go_simp; rfl)); intro gb198 hg w53 hbox hb; have n0_ := Aside0.mk (Kd.R_below (Sq.rR HO_3.out) hb); have n1_ := Aside0.mk (Kd.R_below (Sq.rR HO_4.out) hb); have n2_ := Aside0.mk (blk_below (Sq.b BK176.out) hb); have n3_ := Aside0.mk (below_step (Sq.w HB.out) hb); have n4_ := Aside0.mk (hbox); have n5_ := Aside0.mk ((by rw [hg]; exact (below_size (Sq.w HB.out)) : w.heap.size ≤ gb198)); have n6_ := Aside0.mk ((by rw [hg]; exact (below_size (Sq.w HB.out)) : w.heap.size ≤ gb198)); have n7_ := Aside0.mk ((by rw [hg]; exact Nat.ne_of_lt (blk_lt (Sq.b BK176.out)) : gb176 ≠ gb198)); have n8_ := Aside0.mk ((by rw [hg]; exact Nat.ne_of_gt (blk_lt (Sq.b BK176.out)) : gb198 ≠ gb176)); clear HO_3; clear HO_4; clear BK176; clear HB; have HO_3 := n0_; have HO_4 := n1_; have BK176 := n2_; have HB := n3_; have BK198 := n4_; have GW198 := n5_; have GE198 := n6_; have NB176_198 := n7_; have NB198_176 := n8_; clear n0_ n1_ n2_ n3_ n4_ n5_ n6_ n7_ n8_; clear hb hbox hg; have hnb54 := NB198_176.out; have hnc54 := NB176_198.out; obtain ⟨hcz55_0, hcz55_1, hcz55_2, hcz55_3, hcz55_4, hcz55_5, hcz55_6, hcz55_7, hcz55_8⟩ := Sq.c9 BK198.out; obtain ⟨hfz55_0, hfz55_1, hfz55_2, hfz55_3, hfz55_4, hfz55_5, hfz55_6, hfz55_7, hfz55_8⟩ := Sq.f9 BK198.out; obtain ⟨Ao56, co56, eo56⟩ := Kd.R_slice HO_3.out; subst eo56) | ((with_reducible refine gate_callee (f := 18) rfl ?_); refine goesL_ (some 83) rfl rfl Try.func18 (by kernel_rfl) rfl #[.agg #[.int .i64 16, .int .i64 49, .bool true, .int .i64 7, .int .i64 5, .int .i64 0, .bool false, .int .i64 (l0_0.length : Int), .int .i64 0], .agg #[.int .i64 1, .slice Ao56 x3_2.length co56]] rfl (by (try simp only [List.map_toArray, List.map_cons, List.map_nil]); first | done | rfl | (simp only [List.length_drop, List.length_take]; rfl)) ?_; (with_reducible refine (drv_Take.calls k2 16 49 true 7 5 0 false (l0_0.length : Int) 0 1 _ _ x3_2 t199 t200 t201 t202 t203 t204 t205 t206 t207 t208 false t212 _ ?side1 ?side2 A42.out).mono ?_); (case side1 => refine (Kd.R_reads' (e := 5) (base := w.heap.size) (ok := fun k_ => True) (n := x3_2.length) (c := co56) ?_).2.2; exact (Sq.rR ((Kd.R_mono (Kd.R_far (p := ⟨gb198, 8, none⟩) (Kd.R_far (p := ⟨gb198, 7, none⟩) (Kd.R_far (p := ⟨gb198, 6, none⟩) (Kd.R_far (p := ⟨gb198, 5, none⟩) (Kd.R_far (p := ⟨gb198, 4, none⟩) (Kd.R_far (p := ⟨gb198, 3, none⟩) (Kd.R_far (p := ⟨gb198, 2, none⟩) (Kd.R_far (p := ⟨gb198, 1, none⟩) (Kd.R_far (p := ⟨gb198, 0, none⟩) (Kd.R_types HO_3.out BK198.out (by decide)) (fun _ hk => hk.2) (.int .i64 16)) (fun _ hk => hk.2) (.int .i64 49)) (fun _ hk => hk.2) (.bool true)) (fun _ hk => hk.2) (.int .i64 7)) (fun _ hk => hk.2) (.int .i64 5)) (fun _ hk => hk.2) (.int .i64 0)) (fun _ hk => hk.2) (.bool false)) (fun _ hk => hk.2) (.int .i64 (l0_0.length : Int))) (fun _ hk => hk.2) (.int .i64 0)) (fun _ h_ => h_.1))))); (case side2 => exact (Kd.R_reads' HO_3.out).2.1); rintro e w57 ⟨v209, rfl, ho0, hb⟩; refine ⟨_, rfl, ?_⟩; have n0_ := Aside0.mk (Kd.R_below (Sq.rR ((Kd.R_mono (Kd.R_far (p := ⟨gb198, 8, none⟩) (Kd.R_far (p := ⟨gb198, 7, none⟩) (Kd.R_far (p := ⟨gb198, 6, none⟩) (Kd.R_far (p := ⟨gb198, 5, none⟩) (Kd.R_far (p := ⟨gb198, 4, none⟩) (Kd.R_far (p := ⟨gb198, 3, none⟩) (Kd.R_far (p := ⟨gb198, 2, none⟩) (Kd.R_far (p := ⟨gb198, 1, none⟩) (Kd.R_far (p := ⟨gb198, 0, none⟩) (Kd.R_types HO_3.out BK198.out (by decide)) (fun _ hk => hk.2) (.int .i64 16)) (fun _ hk => hk.2) (.int .i64 49)) (fun _ hk => hk.2) (.bool true)) (fun _ hk => hk.2) (.int .i64 7)) (fun _ hk => hk.2) (.int .i64 5)) (fun _ hk => hk.2) (.int .i64 0)) (fun _ hk => hk.2) (.bool false)) (fun _ hk => hk.2) (.int .i64 (l0_0.length : Int))) (fun _ hk => hk.2) (.int .i64 0)) (fun _ h_ => h_.1)))) hb); have n1_ := Aside0.mk (Kd.R_elder' (Sq.rR ((Kd.R_mono (Kd.R_far (p := ⟨gb198, 8, none⟩) (Kd.R_far (p := ⟨gb198, 7, none⟩) (Kd.R_far (p := ⟨gb198, 6, none⟩) (Kd.R_far (p := ⟨gb198, 5, none⟩) (Kd.R_far (p := ⟨gb198, 4, none⟩) (Kd.R_far (p := ⟨gb198, 3, none⟩) (Kd.R_far (p := ⟨gb198, 2, none⟩) (Kd.R_far (p := ⟨gb198, 1, none⟩) (Kd.R_far (p := ⟨gb198, 0, none⟩) (Kd.R_types HO_4.out BK198.out (by decide)) (fun _ hk => hk.2) (.int .i64 16)) (fun _ hk => hk.2) (.int .i64 49)) (fun _ hk => hk.2) (.bool true)) (fun _ hk => hk.2) (.int .i64 7)) (fun _ hk => hk.2) (.int .i64 5)) (fun _ hk => hk.2) (.int .i64 0)) (fun _ hk => hk.2) (.bool false)) (fun _ hk => hk.2) (.int .i64 (l0_0.length : Int))) (fun _ hk => hk.2) (.int .i64 0)) (fun _ h_ => h_.1)))) (Kd.R_base ho0) hb); have n2_ := Aside0.mk (Kd.R_lower (Kd.R_new' ho0 (Kd.R_lt (Sq.rR ((Kd.R_mono (Kd.R_far (p := ⟨gb198, 8, none⟩) (Kd.R_far (p := ⟨gb198, 7, none⟩) (Kd.R_far (p := ⟨gb198, 6, none⟩) (Kd.R_far (p := ⟨gb198, 5, none⟩) (Kd.R_far (p := ⟨gb198, 4, none⟩) (Kd.R_far (p := ⟨gb198, 3, none⟩) (Kd.R_far (p := ⟨gb198, 2, none⟩) (Kd.R_far (p := ⟨gb198, 1, none⟩) (Kd.R_far (p := ⟨gb198, 0, none⟩) (Kd.R_types HO_4.out BK198.out (by decide)) (fun _ hk => hk.2) (.int .i64 16)) (fun _ hk => hk.2) (.int .i64 49)) (fun _ hk => hk.2) (.bool true)) (fun _ hk => hk.2) (.int .i64 7)) (fun _ hk => hk.2) (.int .i64 5)) (fun _ hk => hk.2) (.int .i64 0)) (fun _ hk => hk.2) (.bool false)) (fun _ hk => hk.2) (.int .i64 (l0_0.length : Int))) (fun _ hk => hk.2) (.int .i64 0)) (fun _ h_ => h_.1)))))) (below_size (Sq.w HB.out))); have n3_ := Aside0.mk (blk_below (g := gb176) (o := .cells #[.slice A0_0 l0_0.length c0_0, .int .i64 a0_1] 52 (0, 0)) (Sq.B BK176.out) hb); have n4_ := Aside0.mk (blk_below (g := gb198) (o := .cells #[.int .i64 16, .int .i64 49, .bool true, .int .i64 7, .int .i64 5, .int .i64 0, .bool false, .int .i64 (l0_0.length : Int), .int .i64 0] 24 (0, 0)) (Sq.B BK198.out) hb); have n5_ := Aside0.mk (below_step (Sq.w HB.out) hb); clear HO_3; clear HO_4; clear BK176; clear BK198; clear HB; have HO_3 := n0_; have HO_4 := n1_; have HO210 := n2_; have BK176 := n3_; have BK198 := n4_; have HB := n5_; clear n0_ n1_ n2_ n3_ n4_ n5_; (try clear hb); (try clear hb2); (try clear hk); (try clear hi); (try clear ho0)) | ((with_reducible refine gate_dst (N := 9) rfl ?_); (try (refine gate_guard (by rfl) ?_; dsimp only)); refine box_event ?hg (N := 9) ?hd (cs := #[.int .i64 0, .int .i64 0, .bool false, .int .i64 0, .int .i64 0, .int .i64 0, .bool false, .int .i64 0, .int .i64 0]) (t := 24) ?hr ?_; (case hd => rfl); (case hg => rfl); (case hr => first | (go_simp; done) | (go_simp; rfl)); intro gb213 hg w58 hbox hb; have n0_ := Aside0.mk (Kd.R_below (Sq.rR HO_3.out) hb); have n1_ := Aside0.mk (Kd.R_below (Sq.rR HO_4.out) hb); have n2_ := Aside0.mk (Kd.R_below (Sq.rR HO210.out) hb); have n3_ := Aside0.mk (blk_below (Sq.b BK176.out) hb); have n4_ := Aside0.mk (blk_below (Sq.b BK198.out) hb); have n5_ := Aside0.mk (below_step (Sq.w HB.out) hb); have n6_ := Aside0.mk (hbox); have n7_ := Aside0.mk ((by rw [hg]; exact (below_size (Sq.w HB.out)) : w.heap.size ≤ gb213)); have n8_ := Aside0.mk ((by rw [hg]; exact (below_size (Sq.w HB.out)) : w.heap.size ≤ gb213)); have n9_ := Aside0.mk ((by rw [hg]; exact Nat.ne_of_lt (blk_lt (Sq.b BK176.out)) : gb176 ≠ gb213)); have n10_ := Aside0.mk ((by rw [hg]; exact Nat.ne_of_gt (blk_lt (Sq.b BK176.out)) : gb213 ≠ gb176)); have n11_ := Aside0.mk ((by rw [hg]; exact Nat.ne_of_lt (blk_lt (Sq.b BK198.out)) : gb198 ≠ gb213)); have n12_ := Aside0.mk ((by rw [hg]; exact Nat.ne_of_gt (blk_lt (Sq.b BK198.out)) : gb213 ≠ gb198)); clear HO_3; clear HO_4; clear HO210; clear BK176; clear BK198; clear HB; have HO_3 := n0_; have HO_4 := n1_; have HO210 := n2_; have BK176 := n3_; have BK198 := n4_; have HB := n5_; have BK213 := n6_; have GW213 := n7_; have GE213 := n8_; have NB176_213 := n9_; have NB213_176 := n10_; have NB198_213 := n11_; have NB213_198 := n12_; clear n0_ n1_ n2_ n3_ n4_ n5_ n6_ n7_ n8_ n9_ n10_ n11_ n12_; clear hb hbox hg; have hnb59 := NB213_176.out; have hnc59 := NB176_213.out; have hnb60 := NB213_198.out; have hnc60 := NB198_213.out; obtain ⟨hcz61_0, hcz61_1, hcz61_2, hcz61_3, hcz61_4, hcz61_5, hcz61_6, hcz61_7, hcz61_8⟩ := Sq.c9 BK213.out; obtain ⟨hfz61_0, hfz61_1, hfz61_2, hfz61_3, hfz61_4, hfz61_5, hfz61_6, hfz61_7, hfz61_8⟩ := Sq.f9 BK213.out) | ((with_reducible refine gate_callee (f := 11) rfl ?_); refine goesL_ (some 89) rfl rfl Try.func11 (by kernel_rfl) rfl #[.int .i64 t212] rfl (by (try simp only [List.map_toArray, List.map_cons, List.map_nil]); first | done | rfl | (simp only [List.length_drop, List.length_take]; rfl)) ?_; (with_reducible refine (gimballaw9_num.calls t212 t214 _ A43.out).mono ?_); rintro e w' ⟨rfl, ⟨nd, rfl⟩⟩; refine ⟨_, rfl, ?_⟩; obtain ⟨Ao62, co62, eo62⟩ := Kd.R_slice HO210.out; subst eo62; obtain ⟨Ao63, co63, eo63⟩ := Kd.R_slice HO_4.out; subst eo63) | (go_at_call 21; (with_reducible refine (gimbalref0_EqRaws.calls k2 _ _ t208 _ _ x4_2 true _ ?side1 ?side2 ?side3 ?side4 A49.out).mono ?_); (case side1 => refine (Kd.R_reads' (e := 55) (base := w.heap.size) (ok := fun k_ => (True ∧ some k_ ≠ (.slice Ao63 x4_2.length co63 : Value).ownBlock)) (n := t208.length) (c := co62) ?_).2.2; exact (Sq.rR ((Kd.R_mono (Kd.R_far (p := ⟨gb213, 8, none⟩) (Kd.R_far (p := ⟨gb213, 7, none⟩) (Kd.R_far (p := ⟨gb213, 6, none⟩) (Kd.R_far (p := ⟨gb213, 5, none⟩) (Kd.R_far (p := ⟨gb213, 4, none⟩) (Kd.R_far (p := ⟨gb213, 3, none⟩) (Kd.R_far (p := ⟨gb213, 2, none⟩) (Kd.R_far (p := ⟨gb213, 1, none⟩) (Kd.R_far (p := ⟨gb213, 0, none⟩) (Kd.R_types HO210.out BK213.out (by decide)) (fun _ hk => hk.2) (.int .i64 t199)) (fun _ hk => hk.2) (.int .i64 t200)) (fun _ hk => hk.2) (.bool t201)) (fun _ hk => hk.2) (.int .i64 t202)) (fun _ hk => hk.2) (.int .i64 t203)) (fun _ hk => hk.2) (.int .i64 t204)) (fun _ hk => hk.2) (.bool t205)) (fun _ hk => hk.2) (.int .i64 t206)) (fun _ hk => hk.2) (.int .i64 t207)) (fun _ h_ => h_.1))))); (case side2 => exact (Kd.R_reads' HO210.out).2.1); (case side3 => refine (Kd.R_reads' (e := 55) (base := w.heap.size) (ok := fun k_ => (True ∧ some k_ ≠ (.slice Ao62 t208.length co62 : Value).ownBlock)) (n := x4_2.length) (c := co63) ?_).2.2; exact (Sq.rR ((Kd.R_mono (Kd.R_far (p := ⟨gb213, 8, none⟩) (Kd.R_far (p := ⟨gb213, 7, none⟩) (Kd.R_far (p := ⟨gb213, 6, none⟩) (Kd.R_far (p := ⟨gb213, 5, none⟩) (Kd.R_far (p := ⟨gb213, 4, none⟩) (Kd.R_far (p := ⟨gb213, 3, none⟩) (Kd.R_far (p := ⟨gb213, 2, none⟩) (Kd.R_far (p := ⟨gb213, 1, none⟩) (Kd.R_far (p := ⟨gb213, 0, none⟩) (Kd.R_types HO_4.out BK213.out (by decide)) (fun _ hk => hk.2) (.int .i64 t199)) (fun _ hk => hk.2) (.int .i64 t200)) (fun _ hk => hk.2) (.bool t201)) (fun _ hk => hk.2) (.int .i64 t202)) (fun _ hk => hk.2) (.int .i64 t203)) (fun _ hk => hk.2) (.int .i64 t204)) (fun _ hk => hk.2) (.bool t205)) (fun _ hk => hk.2) (.int .i64 t206)) (fun _ hk => hk.2) (.int .i64 t207)) (fun _ h_ => h_.1))))); (case side4 => exact (Kd.R_reads' HO_4.out).2.1); rintro e w' ⟨rfl, ⟨nd, rfl⟩⟩) | (go_at_call 13; (with_reducible refine (gimballaw9_wakes.calls  t216 _ A51.out).mono ?_); rintro e w64 ⟨rfl, hb⟩; have n0_ := Aside0.mk (Kd.R_below (Sq.rR ((Kd.R_mono (Kd.R_far (p := ⟨gb213, 8, none⟩) (Kd.R_far (p := ⟨gb213, 7, none⟩) (Kd.R_far (p := ⟨gb213, 6, none⟩) (Kd.R_far (p := ⟨gb213, 5, none⟩) (Kd.R_far (p := ⟨gb213, 4, none⟩) (Kd.R_far (p := ⟨gb213, 3, none⟩) (Kd.R_far (p := ⟨gb213, 2, none⟩) (Kd.R_far (p := ⟨gb213, 1, none⟩) (Kd.R_far (p := ⟨gb213, 0, none⟩) (Kd.R_types HO_3.out BK213.out (by decide)) (fun _ hk => hk.2) (.int .i64 t199)) (fun _ hk => hk.2) (.int .i64 t200)) (fun _ hk => hk.2) (.bool t201)) (fun _ hk => hk.2) (.int .i64 t202)) (fun _ hk => hk.2) (.int .i64 t203)) (fun _ hk => hk.2) (.int .i64 t204)) (fun _ hk => hk.2) (.bool t205)) (fun _ hk => hk.2) (.int .i64 t206)) (fun _ hk => hk.2) (.int .i64 t207)) (fun _ h_ => h_.1)))) hb); have n1_ := Aside0.mk (Kd.R_below (Sq.rR ((Kd.R_mono (Kd.R_far (p := ⟨gb213, 8, none⟩) (Kd.R_far (p := ⟨gb213, 7, none⟩) (Kd.R_far (p := ⟨gb213, 6, none⟩) (Kd.R_far (p := ⟨gb213, 5, none⟩) (Kd.R_far (p := ⟨gb213, 4, none⟩) (Kd.R_far (p := ⟨gb213, 3, none⟩) (Kd.R_far (p := ⟨gb213, 2, none⟩) (Kd.R_far (p := ⟨gb213, 1, none⟩) (Kd.R_far (p := ⟨gb213, 0, none⟩) (Kd.R_types HO_4.out BK213.out (by decide)) (fun _ hk => hk.2) (.int .i64 t199)) (fun _ hk => hk.2) (.int .i64 t200)) (fun _ hk => hk.2) (.bool t201)) (fun _ hk => hk.2) (.int .i64 t202)) (fun _ hk => hk.2) (.int .i64 t203)) (fun _ hk => hk.2) (.int .i64 t204)) (fun _ hk => hk.2) (.bool t205)) (fun _ hk => hk.2) (.int .i64 t206)) (fun _ hk => hk.2) (.int .i64 t207)) (fun _ h_ => h_.1)))) hb); have n2_ := Aside0.mk (Kd.R_below (Sq.rR ((Kd.R_mono (Kd.R_far (p := ⟨gb213, 8, none⟩) (Kd.R_far (p := ⟨gb213, 7, none⟩) (Kd.R_far (p := ⟨gb213, 6, none⟩) (Kd.R_far (p := ⟨gb213, 5, none⟩) (Kd.R_far (p := ⟨gb213, 4, none⟩) (Kd.R_far (p := ⟨gb213, 3, none⟩) (Kd.R_far (p := ⟨gb213, 2, none⟩) (Kd.R_far (p := ⟨gb213, 1, none⟩) (Kd.R_far (p := ⟨gb213, 0, none⟩) (Kd.R_types HO210.out BK213.out (by decide)) (fun _ hk => hk.2) (.int .i64 t199)) (fun _ hk => hk.2) (.int .i64 t200)) (fun _ hk => hk.2) (.bool t201)) (fun _ hk => hk.2) (.int .i64 t202)) (fun _ hk => hk.2) (.int .i64 t203)) (fun _ hk => hk.2) (.int .i64 t204)) (fun _ hk => hk.2) (.bool t205)) (fun _ hk => hk.2) (.int .i64 t206)) (fun _ hk => hk.2) (.int .i64 t207)) (fun _ h_ => h_.1)))) hb); have n3_ := Aside0.mk (blk_below (g := gb176) (o := .cells #[.slice A0_0 l0_0.length c0_0, .int .i64 a0_1] 52 (0, 0)) (Sq.B BK176.out) hb); have n4_ := Aside0.mk (blk_below (g := gb198) (o := .cells #[.int .i64 16, .int .i64 49, .bool true, .int .i64 7, .int .i64 5, .int .i64 0, .bool false, .int .i64 (l0_0.length : Int), .int .i64 0] 24 (0, 0)) (Sq.B BK198.out) hb); have n5_ := Aside0.mk (blk_below (g := gb213) (o := .cells #[.int .i64 t199, .int .i64 t200, .bool t201, .int .i64 t202, .int .i64 t203, .int .i64 t204, .bool t205, .int .i64 t206, .int .i64 t207] 24 (0, 0)) (Sq.B BK213.out) hb); have n6_ := Aside0.mk (below_step (Sq.w HB.out) hb); clear HO_3; clear HO_4; clear HO210; clear BK176; clear BK198; clear BK213; clear HB; have HO_3 := n0_; have HO_4 := n1_; have HO210 := n2_; have BK176 := n3_; have BK198 := n4_; have BK213 := n5_; have HB := n6_; clear n0_ n1_ n2_ n3_ n4_ n5_ n6_; (try clear hb); (try clear hb2); (try clear hk); (try clear hi)))
                          go_ret
                          exact ⟨by first | rfl | (simp [errW_none, errW_some] <;> rfl) | (simp [*, errW_none, errW_some] <;> rfl), Sq.w HB.out⟩
                        · replace c50 := Bool.eq_false_iff.mpr c50
                          subst c50
                          have H1 : (some false) = some r := by rw [if_neg (show ¬ (false = true) by decide)] at H; exact H
                          clear H
                          have H := H1
                          clear H1
                          exact absurd ((Option.some.inj H).trans hrt_.out) (by simp)
                      · rw [if_neg c48] at H
                        have c48b0 : (t207 == x5_2) = false := beq_eq_false_iff_ne.mpr c48
                        have c48b1 : (t207 != x5_2) = true := bne_iff_ne.mpr c48
                        exact absurd ((Option.some.inj H).trans hrt_.out) (by simp)
                    · rw [if_neg c47] at H
                      have c47b0 : (t206 == 0) = false := beq_eq_false_iff_ne.mpr c47
                      have c47b1 : (t206 != 0) = true := bne_iff_ne.mpr c47
                      exact absurd ((Option.some.inj H).trans hrt_.out) (by simp)
                  · rw [if_neg c46] at H
                    have c46b0 : (t203 == 4) = false := beq_eq_false_iff_ne.mpr c46
                    have c46b1 : (t203 != 4) = true := bne_iff_ne.mpr c46
                    exact absurd ((Option.some.inj H).trans hrt_.out) (by simp)
              · rw [if_neg c44] at H
                have c44b0 : (t214 == 0) = false := beq_eq_false_iff_ne.mpr c44
                have c44b1 : (t214 != 0) = true := bne_iff_ne.mpr c44
                exact absurd ((Option.some.inj H).trans hrt_.out) (by simp)

end Go.Proofs.Ytnlmbejkemkkoaa.PDrvSamples
