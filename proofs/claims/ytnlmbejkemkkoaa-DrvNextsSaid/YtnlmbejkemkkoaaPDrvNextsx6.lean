import Derived.Test.YtnlmbejkemkkoaaPDrvNextsx0
import Derived.Test.YtnlmbejkemkkoaaPDrvNextsx1
import Derived.Test.YtnlmbejkemkkoaaPDrvNextsx2
import Derived.Test.YtnlmbejkemkkoaaPDrvNextsx3
import Derived.Test.YtnlmbejkemkkoaaPDrvNextsx5
namespace Go.Proofs.Ytnlmbejkemkkoaa.PDrvNexts
open Go.RowKit Go.Proofs.YtnlmbejkemkkoaaW.PrintWords Go.Proofs.YtnlmbejkemkkoaaW.PrintLast Go.Proofs.YtnlmbejkemkkoaaW.PrintMore
attribute [local go_sem] max2_int min2_int max_two min_two max_three min_three max_four min_four   -- for this text's walks alone
set_option linter.unusedVariables false
set_option linter.unusedSimpArgs false

/-! ### gimballaw9_DrvNexts: function 3 -/
mutual
def gimballaw9_DrvNexts.l0 : Nat → List (S29) → Int → Option (Bool)
  | 0, _, _ => none
  | k + 1, x0, x3 => if x3 < (x0.length : Int) then (gimballaw9_DrvNexts.j1 k x0 x3 (decide (x3 < 30))) else (gimballaw9_DrvNexts.j1 k x0 x3 false)
def gimballaw9_DrvNexts.j1 : Nat → List (S29) → Int → Bool → Option (Bool)
  | 0, _, _, _ => none
  | k + 1, x0, x3, x17 => if x17 = true then (if 0 ≤ x3 then (if x3 < (x0.length : Int) then ((drv_Next.f ((rd_T29 x0 x3).f0.f0) ((rd_T29 x0 x3).f0.f1) ((rd_T29 x0 x3).f0.f2) ((rd_T29 x0 x3).f0.f3) ((rd_T29 x0 x3).f0.f4) ((rd_T29 x0 x3).f0.f5) ((rd_T29 x0 x3).f0.f6) ((rd_T29 x0 x3).f0.f7) ((rd_T29 x0 x3).f0.f8)).bind fun bt152 => ((gimbalref9_May.f k ((rd_T29 x0 x3).f0.f0) ((rd_T29 x0 x3).f0.f1) ((rd_T29 x0 x3).f0.f2) ((rd_T29 x0 x3).f0.f3) ((rd_T29 x0 x3).f0.f4) ((rd_T29 x0 x3).f0.f5) ((rd_T29 x0 x3).f0.f6) ((rd_T29 x0 x3).f0.f7) ((rd_T29 x0 x3).f0.f8)).bind fun t161 => (if t161 = true then (if ((rd_T29 x0 x3).f0.f4) = 1 then (gimballaw9_DrvNexts.j2 k x0 x3 bt152.2.2.2.2.1 bt152.2.2.2.2.2 ((rd_T29 x0 x3).f0.f0) ((rd_T29 x0 x3).f0.f1) ((rd_T29 x0 x3).f0.f2) ((rd_T29 x0 x3).f0.f3) ((rd_T29 x0 x3).f0.f4) ((rd_T29 x0 x3).f0.f5) ((rd_T29 x0 x3).f0.f6) ((rd_T29 x0 x3).f0.f7) ((rd_T29 x0 x3).f0.f8) bt152.1 bt152.2.1 bt152.2.2.1 bt152.2.2.2.1 ((rd_T29 x0 x3).f0.f0) 0 ([] : List Int) 1) else (if ((rd_T29 x0 x3).f0.f4) = 2 then (gimballaw9_DrvNexts.j2 k x0 x3 bt152.2.2.2.2.1 bt152.2.2.2.2.2 ((rd_T29 x0 x3).f0.f0) ((rd_T29 x0 x3).f0.f1) ((rd_T29 x0 x3).f0.f2) ((rd_T29 x0 x3).f0.f3) ((rd_T29 x0 x3).f0.f4) ((rd_T29 x0 x3).f0.f5) ((rd_T29 x0 x3).f0.f6) ((rd_T29 x0 x3).f0.f7) ((rd_T29 x0 x3).f0.f8) bt152.1 bt152.2.1 bt152.2.2.1 bt152.2.2.2.1 ((rd_T29 x0 x3).f0.f0) 2 (([((rd_T29 x0 x3).f0.f3) % 256] : List Int)) 0) else (if ((rd_T29 x0 x3).f0.f4) = 3 then (gimballaw9_DrvNexts.j2 k x0 x3 bt152.2.2.2.2.1 bt152.2.2.2.2.2 ((rd_T29 x0 x3).f0.f0) ((rd_T29 x0 x3).f0.f1) ((rd_T29 x0 x3).f0.f2) ((rd_T29 x0 x3).f0.f3) ((rd_T29 x0 x3).f0.f4) ((rd_T29 x0 x3).f0.f5) ((rd_T29 x0 x3).f0.f6) ((rd_T29 x0 x3).f0.f7) ((rd_T29 x0 x3).f0.f8) bt152.1 bt152.2.1 bt152.2.2.1 bt152.2.2.2.1 ((rd_T29 x0 x3).f0.f0) 1 (([1] : List Int)) 0) else (if ((rd_T29 x0 x3).f0.f4) = 4 then (gimballaw9_DrvNexts.j2 k x0 x3 bt152.2.2.2.2.1 bt152.2.2.2.2.2 ((rd_T29 x0 x3).f0.f0) ((rd_T29 x0 x3).f0.f1) ((rd_T29 x0 x3).f0.f2) ((rd_T29 x0 x3).f0.f3) ((rd_T29 x0 x3).f0.f4) ((rd_T29 x0 x3).f0.f5) ((rd_T29 x0 x3).f0.f6) ((rd_T29 x0 x3).f0.f7) ((rd_T29 x0 x3).f0.f8) bt152.1 bt152.2.1 bt152.2.2.1 bt152.2.2.2.1 ((rd_T29 x0 x3).f0.f0) 3 ([] : List Int) 1) else (if ((rd_T29 x0 x3).f0.f4) = 5 then (gimballaw9_DrvNexts.j2 k x0 x3 bt152.2.2.2.2.1 bt152.2.2.2.2.2 ((rd_T29 x0 x3).f0.f0) ((rd_T29 x0 x3).f0.f1) ((rd_T29 x0 x3).f0.f2) ((rd_T29 x0 x3).f0.f3) ((rd_T29 x0 x3).f0.f4) ((rd_T29 x0 x3).f0.f5) ((rd_T29 x0 x3).f0.f6) ((rd_T29 x0 x3).f0.f7) ((rd_T29 x0 x3).f0.f8) bt152.1 bt152.2.1 bt152.2.2.1 bt152.2.2.2.1 ((rd_T29 x0 x3).f0.f0) 4 ([] : List Int) (wrap64 (8 * ((rd_T29 x0 x3).f0.f7)))) else (if ((rd_T29 x0 x3).f0.f4) = 6 then (gimballaw9_DrvNexts.j2 k x0 x3 bt152.2.2.2.2.1 bt152.2.2.2.2.2 ((rd_T29 x0 x3).f0.f0) ((rd_T29 x0 x3).f0.f1) ((rd_T29 x0 x3).f0.f2) ((rd_T29 x0 x3).f0.f3) ((rd_T29 x0 x3).f0.f4) ((rd_T29 x0 x3).f0.f5) ((rd_T29 x0 x3).f0.f6) ((rd_T29 x0 x3).f0.f7) ((rd_T29 x0 x3).f0.f8) bt152.1 bt152.2.1 bt152.2.2.1 bt152.2.2.2.1 ((rd_T29 x0 x3).f0.f0) 1 (([0] : List Int)) 0) else (if ((rd_T29 x0 x3).f0.f4) = 7 then (gimballaw9_DrvNexts.j2 k x0 x3 bt152.2.2.2.2.1 bt152.2.2.2.2.2 ((rd_T29 x0 x3).f0.f0) ((rd_T29 x0 x3).f0.f1) ((rd_T29 x0 x3).f0.f2) ((rd_T29 x0 x3).f0.f3) ((rd_T29 x0 x3).f0.f4) ((rd_T29 x0 x3).f0.f5) ((rd_T29 x0 x3).f0.f6) ((rd_T29 x0 x3).f0.f7) ((rd_T29 x0 x3).f0.f8) bt152.1 bt152.2.1 bt152.2.2.1 bt152.2.2.2.1 ((rd_T29 x0 x3).f0.f0) 5 (([182] : List Int)) 0) else (gimballaw9_DrvNexts.j2 k x0 x3 bt152.2.2.2.2.1 bt152.2.2.2.2.2 ((rd_T29 x0 x3).f0.f0) ((rd_T29 x0 x3).f0.f1) ((rd_T29 x0 x3).f0.f2) ((rd_T29 x0 x3).f0.f3) ((rd_T29 x0 x3).f0.f4) ((rd_T29 x0 x3).f0.f5) ((rd_T29 x0 x3).f0.f6) ((rd_T29 x0 x3).f0.f7) ((rd_T29 x0 x3).f0.f8) bt152.1 bt152.2.1 bt152.2.2.1 bt152.2.2.2.1 0 0 ([] : List Int) 0)))))))) else ((gimballaw9_num.f bt152.2.2.2.2.2).bind fun t162 => (if t162 = 1 then (if bt152.2.2.2.2.1 = true then (some false) else ((gimbalref0_EqTx.f k bt152.1 bt152.2.1 bt152.2.2.1 bt152.2.2.2.1 0 0 ([] : List Int) 0).bind fun t163 => (if t163 = true then (gimballaw9_DrvNexts.l0 k x0 (wrap64 (x3 + 1))) else (some false)))) else (some false)))))) else (none)) else (none)) else ((gimballaw9_wakes.f k).bind fun t149 => (some t149))
def gimballaw9_DrvNexts.j2 : Nat → List (S29) → Int → Bool → Int → Int → Int → Bool → Int → Int → Int → Bool → Int → Int → Int → Int → List Int → Int → Int → Int → List Int → Int → Option (Bool)
  | 0, _, _, _, _, _, _, _, _, _, _, _, _, _, _, _, _, _, _, _, _, _ => none
  | k + 1, x0, x3, x6, x7, x152000, x152001, x152002, x152003, x152004, x152005, x152006, x152007, x152008, x161000, x161001, x161002, x161003, x165000, x165001, x165002, x165003 => if x152004 = 0 then (gimballaw9_DrvNexts.j3 k x0 x3 x6 x7 true x161000 x161001 x161002 x161003 x165000 x165001 x165002 x165003) else (gimballaw9_DrvNexts.j3 k x0 x3 x6 x7 (x152004 == 8) x161000 x161001 x161002 x161003 x165000 x165001 x165002 x165003)
def gimballaw9_DrvNexts.j3 : Nat → List (S29) → Int → Bool → Int → Bool → Int → Int → List Int → Int → Int → Int → List Int → Int → Option (Bool)
  | 0, _, _, _, _, _, _, _, _, _, _, _, _, _ => none
  | k + 1, x0, x3, x6, x7, x9, x161000, x161001, x161002, x161003, x165000, x165001, x165002, x165003 => (gimballaw9_num.f x7).bind fun t177 => (if t177 = 0 then (if (x6 == x9) = true then (some false) else ((gimbalref0_EqTx.f k x161000 x161001 x161002 x161003 x165000 x165001 x165002 x165003).bind fun t178 => (if t178 = true then (gimballaw9_DrvNexts.l0 k x0 (wrap64 (x3 + 1))) else (some false)))) else (some false))
end
def gimballaw9_DrvNexts.f (k : Nat) (l0 : List (S29)) : Option (Bool) := gimballaw9_DrvNexts.l0 k l0 0
theorem gimballaw9_DrvNexts.mono_l : ∀ k, (∀ y0 y1, LeO (gimballaw9_DrvNexts.l0 k y0 y1) (gimballaw9_DrvNexts.l0 (k + 1) y0 y1)) ∧ (∀ y0 y1 y2, LeO (gimballaw9_DrvNexts.j1 k y0 y1 y2) (gimballaw9_DrvNexts.j1 (k + 1) y0 y1 y2)) ∧ (∀ y0 y1 y2 y3 y4 y5 y6 y7 y8 y9 y10 y11 y12 y13 y14 y15 y16 y17 y18 y19 y20, LeO (gimballaw9_DrvNexts.j2 k y0 y1 y2 y3 y4 y5 y6 y7 y8 y9 y10 y11 y12 y13 y14 y15 y16 y17 y18 y19 y20) (gimballaw9_DrvNexts.j2 (k + 1) y0 y1 y2 y3 y4 y5 y6 y7 y8 y9 y10 y11 y12 y13 y14 y15 y16 y17 y18 y19 y20)) ∧ (∀ y0 y1 y2 y3 y4 y5 y6 y7 y8 y9 y10 y11 y12, LeO (gimballaw9_DrvNexts.j3 k y0 y1 y2 y3 y4 y5 y6 y7 y8 y9 y10 y11 y12) (gimballaw9_DrvNexts.j3 (k + 1) y0 y1 y2 y3 y4 y5 y6 y7 y8 y9 y10 y11 y12))
  | 0 => ⟨fun _ _ r h => by simp [gimballaw9_DrvNexts.l0] at h, fun _ _ _ r h => by simp [gimballaw9_DrvNexts.j1] at h, fun _ _ _ _ _ _ _ _ _ _ _ _ _ _ _ _ _ _ _ _ _ r h => by simp [gimballaw9_DrvNexts.j2] at h, fun _ _ _ _ _ _ _ _ _ _ _ _ _ r h => by simp [gimballaw9_DrvNexts.j3] at h⟩
  | k + 1 => by
    obtain ⟨ih0, ih1, ih2, ih3⟩ := gimballaw9_DrvNexts.mono_l k
    refine ⟨?_, ?_, ?_, ?_⟩
    · intro y0 y1
      unfold gimballaw9_DrvNexts.l0
      repeat' first
      | (with_reducible exact ih0 _ _)
      | (with_reducible exact ih1 _ _ _)
      | (with_reducible exact ih2 _ _ _ _ _ _ _ _ _ _ _ _ _ _ _ _ _ _ _ _ _)
      | (with_reducible exact ih3 _ _ _ _ _ _ _ _ _ _ _ _ _)
      | (with_reducible exact gimballaw9_wakes.mono _)
      | (with_reducible exact gimbalref0_EqTx.mono _ _ _ _ _ _ _ _ _)
      | (with_reducible exact gimbalref9_May.mono _ _ _ _ _ _ _ _ _ _)
      | (with_reducible exact LeO.refl _)
      | (with_reducible exact LeO.none _)
      | (with_reducible refine LeO.ite ?_ ?_)
      | (with_reducible refine LeO.bind ?_ (fun _ => ?_))
      | exact ih0 _ _
      | exact ih1 _ _ _
      | exact ih2 _ _ _ _ _ _ _ _ _ _ _ _ _ _ _ _ _ _ _ _ _
      | exact ih3 _ _ _ _ _ _ _ _ _ _ _ _ _
      | exact gimballaw9_wakes.mono _
      | exact gimbalref0_EqTx.mono _ _ _ _ _ _ _ _ _
      | exact gimbalref9_May.mono _ _ _ _ _ _ _ _ _ _
      | exact LeO.none _
      | refine LeO.ite ?_ ?_
      | refine LeO.bind ?_ (fun _ => ?_)
    · intro y0 y1 y2
      unfold gimballaw9_DrvNexts.j1
      repeat' first
      | (with_reducible exact ih0 _ _)
      | (with_reducible exact ih1 _ _ _)
      | (with_reducible exact ih2 _ _ _ _ _ _ _ _ _ _ _ _ _ _ _ _ _ _ _ _ _)
      | (with_reducible exact ih3 _ _ _ _ _ _ _ _ _ _ _ _ _)
      | (with_reducible exact gimballaw9_wakes.mono _)
      | (with_reducible exact gimbalref0_EqTx.mono _ _ _ _ _ _ _ _ _)
      | (with_reducible exact gimbalref9_May.mono _ _ _ _ _ _ _ _ _ _)
      | (with_reducible exact LeO.refl _)
      | (with_reducible exact LeO.none _)
      | (with_reducible refine LeO.ite ?_ ?_)
      | (with_reducible refine LeO.bind ?_ (fun _ => ?_))
      | exact ih0 _ _
      | exact ih1 _ _ _
      | exact ih2 _ _ _ _ _ _ _ _ _ _ _ _ _ _ _ _ _ _ _ _ _
      | exact ih3 _ _ _ _ _ _ _ _ _ _ _ _ _
      | exact gimballaw9_wakes.mono _
      | exact gimbalref0_EqTx.mono _ _ _ _ _ _ _ _ _
      | exact gimbalref9_May.mono _ _ _ _ _ _ _ _ _ _
      | exact LeO.none _
      | refine LeO.ite ?_ ?_
      | refine LeO.bind ?_ (fun _ => ?_)
    · intro y0 y1 y2 y3 y4 y5 y6 y7 y8 y9 y10 y11 y12 y13 y14 y15 y16 y17 y18 y19 y20
      unfold gimballaw9_DrvNexts.j2
      repeat' first
      | (with_reducible exact ih0 _ _)
      | (with_reducible exact ih1 _ _ _)
      | (with_reducible exact ih2 _ _ _ _ _ _ _ _ _ _ _ _ _ _ _ _ _ _ _ _ _)
      | (with_reducible exact ih3 _ _ _ _ _ _ _ _ _ _ _ _ _)
      | (with_reducible exact gimballaw9_wakes.mono _)
      | (with_reducible exact gimbalref0_EqTx.mono _ _ _ _ _ _ _ _ _)
      | (with_reducible exact gimbalref9_May.mono _ _ _ _ _ _ _ _ _ _)
      | (with_reducible exact LeO.refl _)
      | (with_reducible exact LeO.none _)
      | (with_reducible refine LeO.ite ?_ ?_)
      | (with_reducible refine LeO.bind ?_ (fun _ => ?_))
      | exact ih0 _ _
      | exact ih1 _ _ _
      | exact ih2 _ _ _ _ _ _ _ _ _ _ _ _ _ _ _ _ _ _ _ _ _
      | exact ih3 _ _ _ _ _ _ _ _ _ _ _ _ _
      | exact gimballaw9_wakes.mono _
      | exact gimbalref0_EqTx.mono _ _ _ _ _ _ _ _ _
      | exact gimbalref9_May.mono _ _ _ _ _ _ _ _ _ _
      | exact LeO.none _
      | refine LeO.ite ?_ ?_
      | refine LeO.bind ?_ (fun _ => ?_)
    · intro y0 y1 y2 y3 y4 y5 y6 y7 y8 y9 y10 y11 y12
      unfold gimballaw9_DrvNexts.j3
      repeat' first
      | (with_reducible exact ih0 _ _)
      | (with_reducible exact ih1 _ _ _)
      | (with_reducible exact ih2 _ _ _ _ _ _ _ _ _ _ _ _ _ _ _ _ _ _ _ _ _)
      | (with_reducible exact ih3 _ _ _ _ _ _ _ _ _ _ _ _ _)
      | (with_reducible exact gimballaw9_wakes.mono _)
      | (with_reducible exact gimbalref0_EqTx.mono _ _ _ _ _ _ _ _ _)
      | (with_reducible exact gimbalref9_May.mono _ _ _ _ _ _ _ _ _ _)
      | (with_reducible exact LeO.refl _)
      | (with_reducible exact LeO.none _)
      | (with_reducible refine LeO.ite ?_ ?_)
      | (with_reducible refine LeO.bind ?_ (fun _ => ?_))
      | exact ih0 _ _
      | exact ih1 _ _ _
      | exact ih2 _ _ _ _ _ _ _ _ _ _ _ _ _ _ _ _ _ _ _ _ _
      | exact ih3 _ _ _ _ _ _ _ _ _ _ _ _ _
      | exact gimballaw9_wakes.mono _
      | exact gimbalref0_EqTx.mono _ _ _ _ _ _ _ _ _
      | exact gimbalref9_May.mono _ _ _ _ _ _ _ _ _ _
      | exact LeO.none _
      | refine LeO.ite ?_ ?_
      | refine LeO.bind ?_ (fun _ => ?_)
theorem gimballaw9_DrvNexts.mono : ∀ a0 k, LeO (gimballaw9_DrvNexts.f k a0) (gimballaw9_DrvNexts.f (k + 1) a0) := by
  intro a0 k
  obtain ⟨ih0, ih1, ih2, ih3⟩ := gimballaw9_DrvNexts.mono_l k
  unfold gimballaw9_DrvNexts.f
  repeat' first
      | (with_reducible exact ih0 _ _)
      | (with_reducible exact ih1 _ _ _)
      | (with_reducible exact ih2 _ _ _ _ _ _ _ _ _ _ _ _ _ _ _ _ _ _ _ _ _)
      | (with_reducible exact ih3 _ _ _ _ _ _ _ _ _ _ _ _ _)
      | (with_reducible exact gimballaw9_wakes.mono _)
      | (with_reducible exact gimbalref0_EqTx.mono _ _ _ _ _ _ _ _ _)
      | (with_reducible exact gimbalref9_May.mono _ _ _ _ _ _ _ _ _ _)
      | (with_reducible exact LeO.refl _)
      | (with_reducible exact LeO.none _)
      | (with_reducible refine LeO.ite ?_ ?_)
      | (with_reducible refine LeO.bind ?_ (fun _ => ?_))
      | exact ih0 _ _
      | exact ih1 _ _ _
      | exact ih2 _ _ _ _ _ _ _ _ _ _ _ _ _ _ _ _ _ _ _ _ _
      | exact ih3 _ _ _ _ _ _ _ _ _ _ _ _ _
      | exact gimballaw9_wakes.mono _
      | exact gimbalref0_EqTx.mono _ _ _ _ _ _ _ _ _
      | exact gimbalref9_May.mono _ _ _ _ _ _ _ _ _ _
      | exact LeO.none _
      | refine LeO.ite ?_ ?_
      | refine LeO.bind ?_ (fun _ => ?_)
set_option maxHeartbeats 8000000 in
set_option maxRecDepth 100000 in
theorem gimballaw9_DrvNexts.calls (k : Nat) (A0 : Option Addr) (c0 : Nat) (l0 : List (S29)) (r : Bool) (w : World) (hr0 : Kd.C k29 w A0 l0.length l0) (hc0 : l0.length ≤ c0) (h : gimballaw9_DrvNexts.f k l0 = some r) :
    Calls Try.prog 3 #[.slice A0 l0.length c0] w fun e w' => e = .returned (.bool r) ∧ Below w.heap.size w w' := by
  have hu24 := Try.underlying24
  have hu31 := Try.underlying31
  have HR0 := Aside0.mk hr0
  have HC0 := Aside0.mk hc0
  clear hr0 hc0
  have HB := Aside0.mk (Below.refl w.heap.size w)
  have H : (gimballaw9_DrvNexts.l0 k l0 0) = some r := h
  clear h
  have H' := Aside0.mk H
  clear H
  go_enter Try.func3, Try.ntmps3
  go_wp2
  go_loopg [3] k (fun kq v3 w' => ∃ (x3_1 : Int), v3 = .int .i64 x3_1 ∧ Aside0 (gimballaw9_DrvNexts.l0 kq l0 x3_1 = some r) ∧ Aside0 (kq ≤ k) ∧ Aside0 (Below w.heap.size w w'))
  case atStart => exact ⟨(0), (by first | rfl | (simp; done) | (simp [*]; done)), H', ⟨Nat.le_refl _⟩, ⟨by repeat (first | (with_reducible first | exact HB.out | apply below_alloc | apply pw_below_drewN | apply below_drew1) | exact HB.out)⟩⟩
  case round =>
    clear H'
    obtain ⟨x3_1, rfl, HA, HK1, HB⟩ := hrel
    cases gk with
    | zero => exact absurd HA.out (by simp [gimballaw9_DrvNexts.l0])
    | succ k1 =>
      have H := HA.out
      clear HA
      simp only [gimballaw9_DrvNexts.l0] at H
      have HC2 := Aside0.mk H
      clear H
      go_upto_region 2 with (fail)
      go_cut [17] (fun v17 wc => ∃ (kq : Nat) (x17_1 : Bool), v17 = .bool x17_1 ∧ Aside0 (gimballaw9_DrvNexts.j1 kq l0 x3_1 x17_1 = some r) ∧ Aside0 (kq ≤ k1) ∧ Aside0 (Below w.heap.size w wc))
      case first =>
        have H := HC2.out
        clear HC2
        by_cases c3 : x3_1 < (l0.length : Int)
        · rw [if_pos c3] at H
          have c3b0 : decide (x3_1 < (l0.length : Int)) = true := decide_eq_true c3
          clear c3
          (first | rw [c3b0] | (simp only [i64_w, i32_w]; rw [c3b0]) | skip)
          have H' := Aside0.mk H
          clear H
          go_wp2
          go_meet
          case rel => exact ⟨_, (decide (x3_1 < 30)), (by first | rfl | (simp; done) | (simp [*]; done)), H', ⟨by have := HK1.out; first | omega | exact Nat.le_refl _⟩, ⟨by repeat (first | (with_reducible first | exact HB.out | apply below_alloc | apply pw_below_drewN | apply below_drew1) | exact HB.out)⟩⟩
        · rw [if_neg c3] at H
          have c3b0 : decide (x3_1 < (l0.length : Int)) = false := decide_eq_false c3
          clear c3
          (first | rw [c3b0] | (simp only [i64_w, i32_w]; rw [c3b0]) | skip)
          have H' := Aside0.mk H
          clear H
          go_wp2
          go_meet
          case rel => exact ⟨_, (false), (by first | rfl | (simp; done) | (simp [*]; done)), H', ⟨by have := HK1.out; first | omega | exact Nat.le_refl _⟩, ⟨by repeat (first | (with_reducible first | exact HB.out | apply below_alloc | apply pw_below_drewN | apply below_drew1) | exact HB.out)⟩⟩
      case rest =>
        clear HC2
        try clear p2
        try clear c3
        try clear c3b0
        obtain ⟨kq, x17_1, rfl, HA, HJ1, HB⟩ := hcut
        cases kq with
        | zero => exact absurd HA.out (by simp [gimballaw9_DrvNexts.j1])
        | succ kj1 =>
          have H := HA.out
          clear HA
          simp only [gimballaw9_DrvNexts.j1] at H
          by_cases c4 : x17_1 = true
          · subst c4
            have H1 : (if 0 ≤ x3_1 then (if x3_1 < (l0.length : Int) then ((drv_Next.f ((rd_T29 l0 x3_1).f0.f0) ((rd_T29 l0 x3_1).f0.f1) ((rd_T29 l0 x3_1).f0.f2) ((rd_T29 l0 x3_1).f0.f3) ((rd_T29 l0 x3_1).f0.f4) ((rd_T29 l0 x3_1).f0.f5) ((rd_T29 l0 x3_1).f0.f6) ((rd_T29 l0 x3_1).f0.f7) ((rd_T29 l0 x3_1).f0.f8)).bind fun bt152 => ((gimbalref9_May.f kj1 ((rd_T29 l0 x3_1).f0.f0) ((rd_T29 l0 x3_1).f0.f1) ((rd_T29 l0 x3_1).f0.f2) ((rd_T29 l0 x3_1).f0.f3) ((rd_T29 l0 x3_1).f0.f4) ((rd_T29 l0 x3_1).f0.f5) ((rd_T29 l0 x3_1).f0.f6) ((rd_T29 l0 x3_1).f0.f7) ((rd_T29 l0 x3_1).f0.f8)).bind fun t161 => (if t161 = true then (if ((rd_T29 l0 x3_1).f0.f4) = 1 then (gimballaw9_DrvNexts.j2 kj1 l0 x3_1 bt152.2.2.2.2.1 bt152.2.2.2.2.2 ((rd_T29 l0 x3_1).f0.f0) ((rd_T29 l0 x3_1).f0.f1) ((rd_T29 l0 x3_1).f0.f2) ((rd_T29 l0 x3_1).f0.f3) ((rd_T29 l0 x3_1).f0.f4) ((rd_T29 l0 x3_1).f0.f5) ((rd_T29 l0 x3_1).f0.f6) ((rd_T29 l0 x3_1).f0.f7) ((rd_T29 l0 x3_1).f0.f8) bt152.1 bt152.2.1 bt152.2.2.1 bt152.2.2.2.1 ((rd_T29 l0 x3_1).f0.f0) 0 ([] : List Int) 1) else (if ((rd_T29 l0 x3_1).f0.f4) = 2 then (gimballaw9_DrvNexts.j2 kj1 l0 x3_1 bt152.2.2.2.2.1 bt152.2.2.2.2.2 ((rd_T29 l0 x3_1).f0.f0) ((rd_T29 l0 x3_1).f0.f1) ((rd_T29 l0 x3_1).f0.f2) ((rd_T29 l0 x3_1).f0.f3) ((rd_T29 l0 x3_1).f0.f4) ((rd_T29 l0 x3_1).f0.f5) ((rd_T29 l0 x3_1).f0.f6) ((rd_T29 l0 x3_1).f0.f7) ((rd_T29 l0 x3_1).f0.f8) bt152.1 bt152.2.1 bt152.2.2.1 bt152.2.2.2.1 ((rd_T29 l0 x3_1).f0.f0) 2 (([((rd_T29 l0 x3_1).f0.f3) % 256] : List Int)) 0) else (if ((rd_T29 l0 x3_1).f0.f4) = 3 then (gimballaw9_DrvNexts.j2 kj1 l0 x3_1 bt152.2.2.2.2.1 bt152.2.2.2.2.2 ((rd_T29 l0 x3_1).f0.f0) ((rd_T29 l0 x3_1).f0.f1) ((rd_T29 l0 x3_1).f0.f2) ((rd_T29 l0 x3_1).f0.f3) ((rd_T29 l0 x3_1).f0.f4) ((rd_T29 l0 x3_1).f0.f5) ((rd_T29 l0 x3_1).f0.f6) ((rd_T29 l0 x3_1).f0.f7) ((rd_T29 l0 x3_1).f0.f8) bt152.1 bt152.2.1 bt152.2.2.1 bt152.2.2.2.1 ((rd_T29 l0 x3_1).f0.f0) 1 (([1] : List Int)) 0) else (if ((rd_T29 l0 x3_1).f0.f4) = 4 then (gimballaw9_DrvNexts.j2 kj1 l0 x3_1 bt152.2.2.2.2.1 bt152.2.2.2.2.2 ((rd_T29 l0 x3_1).f0.f0) ((rd_T29 l0 x3_1).f0.f1) ((rd_T29 l0 x3_1).f0.f2) ((rd_T29 l0 x3_1).f0.f3) ((rd_T29 l0 x3_1).f0.f4) ((rd_T29 l0 x3_1).f0.f5) ((rd_T29 l0 x3_1).f0.f6) ((rd_T29 l0 x3_1).f0.f7) ((rd_T29 l0 x3_1).f0.f8) bt152.1 bt152.2.1 bt152.2.2.1 bt152.2.2.2.1 ((rd_T29 l0 x3_1).f0.f0) 3 ([] : List Int) 1) else (if ((rd_T29 l0 x3_1).f0.f4) = 5 then (gimballaw9_DrvNexts.j2 kj1 l0 x3_1 bt152.2.2.2.2.1 bt152.2.2.2.2.2 ((rd_T29 l0 x3_1).f0.f0) ((rd_T29 l0 x3_1).f0.f1) ((rd_T29 l0 x3_1).f0.f2) ((rd_T29 l0 x3_1).f0.f3) ((rd_T29 l0 x3_1).f0.f4) ((rd_T29 l0 x3_1).f0.f5) ((rd_T29 l0 x3_1).f0.f6) ((rd_T29 l0 x3_1).f0.f7) ((rd_T29 l0 x3_1).f0.f8) bt152.1 bt152.2.1 bt152.2.2.1 bt152.2.2.2.1 ((rd_T29 l0 x3_1).f0.f0) 4 ([] : List Int) (wrap64 (8 * ((rd_T29 l0 x3_1).f0.f7)))) else (if ((rd_T29 l0 x3_1).f0.f4) = 6 then (gimballaw9_DrvNexts.j2 kj1 l0 x3_1 bt152.2.2.2.2.1 bt152.2.2.2.2.2 ((rd_T29 l0 x3_1).f0.f0) ((rd_T29 l0 x3_1).f0.f1) ((rd_T29 l0 x3_1).f0.f2) ((rd_T29 l0 x3_1).f0.f3) ((rd_T29 l0 x3_1).f0.f4) ((rd_T29 l0 x3_1).f0.f5) ((rd_T29 l0 x3_1).f0.f6) ((rd_T29 l0 x3_1).f0.f7) ((rd_T29 l0 x3_1).f0.f8) bt152.1 bt152.2.1 bt152.2.2.1 bt152.2.2.2.1 ((rd_T29 l0 x3_1).f0.f0) 1 (([0] : List Int)) 0) else (if ((rd_T29 l0 x3_1).f0.f4) = 7 then (gimballaw9_DrvNexts.j2 kj1 l0 x3_1 bt152.2.2.2.2.1 bt152.2.2.2.2.2 ((rd_T29 l0 x3_1).f0.f0) ((rd_T29 l0 x3_1).f0.f1) ((rd_T29 l0 x3_1).f0.f2) ((rd_T29 l0 x3_1).f0.f3) ((rd_T29 l0 x3_1).f0.f4) ((rd_T29 l0 x3_1).f0.f5) ((rd_T29 l0 x3_1).f0.f6) ((rd_T29 l0 x3_1).f0.f7) ((rd_T29 l0 x3_1).f0.f8) bt152.1 bt152.2.1 bt152.2.2.1 bt152.2.2.2.1 ((rd_T29 l0 x3_1).f0.f0) 5 (([182] : List Int)) 0) else (gimballaw9_DrvNexts.j2 kj1 l0 x3_1 bt152.2.2.2.2.1 bt152.2.2.2.2.2 ((rd_T29 l0 x3_1).f0.f0) ((rd_T29 l0 x3_1).f0.f1) ((rd_T29 l0 x3_1).f0.f2) ((rd_T29 l0 x3_1).f0.f3) ((rd_T29 l0 x3_1).f0.f4) ((rd_T29 l0 x3_1).f0.f5) ((rd_T29 l0 x3_1).f0.f6) ((rd_T29 l0 x3_1).f0.f7) ((rd_T29 l0 x3_1).f0.f8) bt152.1 bt152.2.1 bt152.2.2.1 bt152.2.2.2.1 0 0 ([] : List Int) 0)))))))) else ((gimballaw9_num.f bt152.2.2.2.2.2).bind fun t162 => (if t162 = 1 then (if bt152.2.2.2.2.1 = true then (some false) else ((gimbalref0_EqTx.f kj1 bt152.1 bt152.2.1 bt152.2.2.1 bt152.2.2.2.1 0 0 ([] : List Int) 0).bind fun t163 => (if t163 = true then (gimballaw9_DrvNexts.l0 kj1 l0 (wrap64 (x3_1 + 1))) else (some false)))) else (some false)))))) else (none)) else (none)) = some r := by rw [if_pos rfl] at H; exact H
            clear H
            have H := H1
            clear H1
            by_cases c5 : 0 ≤ x3_1
            · rw [if_pos c5] at H
              have c5b0 : decide (0 ≤ x3_1) = true := decide_eq_true c5
              clear c5
              by_cases c6 : x3_1 < (l0.length : Int)
              · rw [if_pos c6] at H
                have c6b0 : decide (x3_1 < (l0.length : Int)) = true := decide_eq_true c6
                clear c6
                replace H := Option.bind_eq_some_iff.mp H
                obtain ⟨⟨t152, t153, t154, t157, t158, t159⟩, A70, H⟩ := H
                replace H : ((gimbalref9_May.f kj1 ((rd_T29 l0 x3_1).f0.f0) ((rd_T29 l0 x3_1).f0.f1) ((rd_T29 l0 x3_1).f0.f2) ((rd_T29 l0 x3_1).f0.f3) ((rd_T29 l0 x3_1).f0.f4) ((rd_T29 l0 x3_1).f0.f5) ((rd_T29 l0 x3_1).f0.f6) ((rd_T29 l0 x3_1).f0.f7) ((rd_T29 l0 x3_1).f0.f8)).bind fun t161 => (if t161 = true then (if ((rd_T29 l0 x3_1).f0.f4) = 1 then (gimballaw9_DrvNexts.j2 kj1 l0 x3_1 t158 t159 ((rd_T29 l0 x3_1).f0.f0) ((rd_T29 l0 x3_1).f0.f1) ((rd_T29 l0 x3_1).f0.f2) ((rd_T29 l0 x3_1).f0.f3) ((rd_T29 l0 x3_1).f0.f4) ((rd_T29 l0 x3_1).f0.f5) ((rd_T29 l0 x3_1).f0.f6) ((rd_T29 l0 x3_1).f0.f7) ((rd_T29 l0 x3_1).f0.f8) t152 t153 t154 t157 ((rd_T29 l0 x3_1).f0.f0) 0 ([] : List Int) 1) else (if ((rd_T29 l0 x3_1).f0.f4) = 2 then (gimballaw9_DrvNexts.j2 kj1 l0 x3_1 t158 t159 ((rd_T29 l0 x3_1).f0.f0) ((rd_T29 l0 x3_1).f0.f1) ((rd_T29 l0 x3_1).f0.f2) ((rd_T29 l0 x3_1).f0.f3) ((rd_T29 l0 x3_1).f0.f4) ((rd_T29 l0 x3_1).f0.f5) ((rd_T29 l0 x3_1).f0.f6) ((rd_T29 l0 x3_1).f0.f7) ((rd_T29 l0 x3_1).f0.f8) t152 t153 t154 t157 ((rd_T29 l0 x3_1).f0.f0) 2 (([((rd_T29 l0 x3_1).f0.f3) % 256] : List Int)) 0) else (if ((rd_T29 l0 x3_1).f0.f4) = 3 then (gimballaw9_DrvNexts.j2 kj1 l0 x3_1 t158 t159 ((rd_T29 l0 x3_1).f0.f0) ((rd_T29 l0 x3_1).f0.f1) ((rd_T29 l0 x3_1).f0.f2) ((rd_T29 l0 x3_1).f0.f3) ((rd_T29 l0 x3_1).f0.f4) ((rd_T29 l0 x3_1).f0.f5) ((rd_T29 l0 x3_1).f0.f6) ((rd_T29 l0 x3_1).f0.f7) ((rd_T29 l0 x3_1).f0.f8) t152 t153 t154 t157 ((rd_T29 l0 x3_1).f0.f0) 1 (([1] : List Int)) 0) else (if ((rd_T29 l0 x3_1).f0.f4) = 4 then (gimballaw9_DrvNexts.j2 kj1 l0 x3_1 t158 t159 ((rd_T29 l0 x3_1).f0.f0) ((rd_T29 l0 x3_1).f0.f1) ((rd_T29 l0 x3_1).f0.f2) ((rd_T29 l0 x3_1).f0.f3) ((rd_T29 l0 x3_1).f0.f4) ((rd_T29 l0 x3_1).f0.f5) ((rd_T29 l0 x3_1).f0.f6) ((rd_T29 l0 x3_1).f0.f7) ((rd_T29 l0 x3_1).f0.f8) t152 t153 t154 t157 ((rd_T29 l0 x3_1).f0.f0) 3 ([] : List Int) 1) else (if ((rd_T29 l0 x3_1).f0.f4) = 5 then (gimballaw9_DrvNexts.j2 kj1 l0 x3_1 t158 t159 ((rd_T29 l0 x3_1).f0.f0) ((rd_T29 l0 x3_1).f0.f1) ((rd_T29 l0 x3_1).f0.f2) ((rd_T29 l0 x3_1).f0.f3) ((rd_T29 l0 x3_1).f0.f4) ((rd_T29 l0 x3_1).f0.f5) ((rd_T29 l0 x3_1).f0.f6) ((rd_T29 l0 x3_1).f0.f7) ((rd_T29 l0 x3_1).f0.f8) t152 t153 t154 t157 ((rd_T29 l0 x3_1).f0.f0) 4 ([] : List Int) (wrap64 (8 * ((rd_T29 l0 x3_1).f0.f7)))) else (if ((rd_T29 l0 x3_1).f0.f4) = 6 then (gimballaw9_DrvNexts.j2 kj1 l0 x3_1 t158 t159 ((rd_T29 l0 x3_1).f0.f0) ((rd_T29 l0 x3_1).f0.f1) ((rd_T29 l0 x3_1).f0.f2) ((rd_T29 l0 x3_1).f0.f3) ((rd_T29 l0 x3_1).f0.f4) ((rd_T29 l0 x3_1).f0.f5) ((rd_T29 l0 x3_1).f0.f6) ((rd_T29 l0 x3_1).f0.f7) ((rd_T29 l0 x3_1).f0.f8) t152 t153 t154 t157 ((rd_T29 l0 x3_1).f0.f0) 1 (([0] : List Int)) 0) else (if ((rd_T29 l0 x3_1).f0.f4) = 7 then (gimballaw9_DrvNexts.j2 kj1 l0 x3_1 t158 t159 ((rd_T29 l0 x3_1).f0.f0) ((rd_T29 l0 x3_1).f0.f1) ((rd_T29 l0 x3_1).f0.f2) ((rd_T29 l0 x3_1).f0.f3) ((rd_T29 l0 x3_1).f0.f4) ((rd_T29 l0 x3_1).f0.f5) ((rd_T29 l0 x3_1).f0.f6) ((rd_T29 l0 x3_1).f0.f7) ((rd_T29 l0 x3_1).f0.f8) t152 t153 t154 t157 ((rd_T29 l0 x3_1).f0.f0) 5 (([182] : List Int)) 0) else (gimballaw9_DrvNexts.j2 kj1 l0 x3_1 t158 t159 ((rd_T29 l0 x3_1).f0.f0) ((rd_T29 l0 x3_1).f0.f1) ((rd_T29 l0 x3_1).f0.f2) ((rd_T29 l0 x3_1).f0.f3) ((rd_T29 l0 x3_1).f0.f4) ((rd_T29 l0 x3_1).f0.f5) ((rd_T29 l0 x3_1).f0.f6) ((rd_T29 l0 x3_1).f0.f7) ((rd_T29 l0 x3_1).f0.f8) t152 t153 t154 t157 0 0 ([] : List Int) 0)))))))) else ((gimballaw9_num.f t159).bind fun t162 => (if t162 = 1 then (if t158 = true then (some false) else ((gimbalref0_EqTx.f kj1 t152 t153 t154 t157 0 0 ([] : List Int) 0).bind fun t163 => (if t163 = true then (gimballaw9_DrvNexts.l0 kj1 l0 (wrap64 (x3_1 + 1))) else (some false)))) else (some false))))) = some r := H
                have A7 := Aside0.mk A70
                clear A70
                replace H := Option.bind_eq_some_iff.mp H
                obtain ⟨t161, A80, H⟩ := H
                replace H : (if t161 = true then (if ((rd_T29 l0 x3_1).f0.f4) = 1 then (gimballaw9_DrvNexts.j2 kj1 l0 x3_1 t158 t159 ((rd_T29 l0 x3_1).f0.f0) ((rd_T29 l0 x3_1).f0.f1) ((rd_T29 l0 x3_1).f0.f2) ((rd_T29 l0 x3_1).f0.f3) ((rd_T29 l0 x3_1).f0.f4) ((rd_T29 l0 x3_1).f0.f5) ((rd_T29 l0 x3_1).f0.f6) ((rd_T29 l0 x3_1).f0.f7) ((rd_T29 l0 x3_1).f0.f8) t152 t153 t154 t157 ((rd_T29 l0 x3_1).f0.f0) 0 ([] : List Int) 1) else (if ((rd_T29 l0 x3_1).f0.f4) = 2 then (gimballaw9_DrvNexts.j2 kj1 l0 x3_1 t158 t159 ((rd_T29 l0 x3_1).f0.f0) ((rd_T29 l0 x3_1).f0.f1) ((rd_T29 l0 x3_1).f0.f2) ((rd_T29 l0 x3_1).f0.f3) ((rd_T29 l0 x3_1).f0.f4) ((rd_T29 l0 x3_1).f0.f5) ((rd_T29 l0 x3_1).f0.f6) ((rd_T29 l0 x3_1).f0.f7) ((rd_T29 l0 x3_1).f0.f8) t152 t153 t154 t157 ((rd_T29 l0 x3_1).f0.f0) 2 (([((rd_T29 l0 x3_1).f0.f3) % 256] : List Int)) 0) else (if ((rd_T29 l0 x3_1).f0.f4) = 3 then (gimballaw9_DrvNexts.j2 kj1 l0 x3_1 t158 t159 ((rd_T29 l0 x3_1).f0.f0) ((rd_T29 l0 x3_1).f0.f1) ((rd_T29 l0 x3_1).f0.f2) ((rd_T29 l0 x3_1).f0.f3) ((rd_T29 l0 x3_1).f0.f4) ((rd_T29 l0 x3_1).f0.f5) ((rd_T29 l0 x3_1).f0.f6) ((rd_T29 l0 x3_1).f0.f7) ((rd_T29 l0 x3_1).f0.f8) t152 t153 t154 t157 ((rd_T29 l0 x3_1).f0.f0) 1 (([1] : List Int)) 0) else (if ((rd_T29 l0 x3_1).f0.f4) = 4 then (gimballaw9_DrvNexts.j2 kj1 l0 x3_1 t158 t159 ((rd_T29 l0 x3_1).f0.f0) ((rd_T29 l0 x3_1).f0.f1) ((rd_T29 l0 x3_1).f0.f2) ((rd_T29 l0 x3_1).f0.f3) ((rd_T29 l0 x3_1).f0.f4) ((rd_T29 l0 x3_1).f0.f5) ((rd_T29 l0 x3_1).f0.f6) ((rd_T29 l0 x3_1).f0.f7) ((rd_T29 l0 x3_1).f0.f8) t152 t153 t154 t157 ((rd_T29 l0 x3_1).f0.f0) 3 ([] : List Int) 1) else (if ((rd_T29 l0 x3_1).f0.f4) = 5 then (gimballaw9_DrvNexts.j2 kj1 l0 x3_1 t158 t159 ((rd_T29 l0 x3_1).f0.f0) ((rd_T29 l0 x3_1).f0.f1) ((rd_T29 l0 x3_1).f0.f2) ((rd_T29 l0 x3_1).f0.f3) ((rd_T29 l0 x3_1).f0.f4) ((rd_T29 l0 x3_1).f0.f5) ((rd_T29 l0 x3_1).f0.f6) ((rd_T29 l0 x3_1).f0.f7) ((rd_T29 l0 x3_1).f0.f8) t152 t153 t154 t157 ((rd_T29 l0 x3_1).f0.f0) 4 ([] : List Int) (wrap64 (8 * ((rd_T29 l0 x3_1).f0.f7)))) else (if ((rd_T29 l0 x3_1).f0.f4) = 6 then (gimballaw9_DrvNexts.j2 kj1 l0 x3_1 t158 t159 ((rd_T29 l0 x3_1).f0.f0) ((rd_T29 l0 x3_1).f0.f1) ((rd_T29 l0 x3_1).f0.f2) ((rd_T29 l0 x3_1).f0.f3) ((rd_T29 l0 x3_1).f0.f4) ((rd_T29 l0 x3_1).f0.f5) ((rd_T29 l0 x3_1).f0.f6) ((rd_T29 l0 x3_1).f0.f7) ((rd_T29 l0 x3_1).f0.f8) t152 t153 t154 t157 ((rd_T29 l0 x3_1).f0.f0) 1 (([0] : List Int)) 0) else (if ((rd_T29 l0 x3_1).f0.f4) = 7 then (gimballaw9_DrvNexts.j2 kj1 l0 x3_1 t158 t159 ((rd_T29 l0 x3_1).f0.f0) ((rd_T29 l0 x3_1).f0.f1) ((rd_T29 l0 x3_1).f0.f2) ((rd_T29 l0 x3_1).f0.f3) ((rd_T29 l0 x3_1).f0.f4) ((rd_T29 l0 x3_1).f0.f5) ((rd_T29 l0 x3_1).f0.f6) ((rd_T29 l0 x3_1).f0.f7) ((rd_T29 l0 x3_1).f0.f8) t152 t153 t154 t157 ((rd_T29 l0 x3_1).f0.f0) 5 (([182] : List Int)) 0) else (gimballaw9_DrvNexts.j2 kj1 l0 x3_1 t158 t159 ((rd_T29 l0 x3_1).f0.f0) ((rd_T29 l0 x3_1).f0.f1) ((rd_T29 l0 x3_1).f0.f2) ((rd_T29 l0 x3_1).f0.f3) ((rd_T29 l0 x3_1).f0.f4) ((rd_T29 l0 x3_1).f0.f5) ((rd_T29 l0 x3_1).f0.f6) ((rd_T29 l0 x3_1).f0.f7) ((rd_T29 l0 x3_1).f0.f8) t152 t153 t154 t157 0 0 ([] : List Int) 0)))))))) else ((gimballaw9_num.f t159).bind fun t162 => (if t162 = 1 then (if t158 = true then (some false) else ((gimbalref0_EqTx.f kj1 t152 t153 t154 t157 0 0 ([] : List Int) 0).bind fun t163 => (if t163 = true then (gimballaw9_DrvNexts.l0 kj1 l0 (wrap64 (x3_1 + 1))) else (some false)))) else (some false)))) = some r := H
                have A8 := Aside0.mk A80
                clear A80
                by_cases c9 : t161 = true
                · subst c9
                  have H1 : (if ((rd_T29 l0 x3_1).f0.f4) = 1 then (gimballaw9_DrvNexts.j2 kj1 l0 x3_1 t158 t159 ((rd_T29 l0 x3_1).f0.f0) ((rd_T29 l0 x3_1).f0.f1) ((rd_T29 l0 x3_1).f0.f2) ((rd_T29 l0 x3_1).f0.f3) ((rd_T29 l0 x3_1).f0.f4) ((rd_T29 l0 x3_1).f0.f5) ((rd_T29 l0 x3_1).f0.f6) ((rd_T29 l0 x3_1).f0.f7) ((rd_T29 l0 x3_1).f0.f8) t152 t153 t154 t157 ((rd_T29 l0 x3_1).f0.f0) 0 ([] : List Int) 1) else (if ((rd_T29 l0 x3_1).f0.f4) = 2 then (gimballaw9_DrvNexts.j2 kj1 l0 x3_1 t158 t159 ((rd_T29 l0 x3_1).f0.f0) ((rd_T29 l0 x3_1).f0.f1) ((rd_T29 l0 x3_1).f0.f2) ((rd_T29 l0 x3_1).f0.f3) ((rd_T29 l0 x3_1).f0.f4) ((rd_T29 l0 x3_1).f0.f5) ((rd_T29 l0 x3_1).f0.f6) ((rd_T29 l0 x3_1).f0.f7) ((rd_T29 l0 x3_1).f0.f8) t152 t153 t154 t157 ((rd_T29 l0 x3_1).f0.f0) 2 (([((rd_T29 l0 x3_1).f0.f3) % 256] : List Int)) 0) else (if ((rd_T29 l0 x3_1).f0.f4) = 3 then (gimballaw9_DrvNexts.j2 kj1 l0 x3_1 t158 t159 ((rd_T29 l0 x3_1).f0.f0) ((rd_T29 l0 x3_1).f0.f1) ((rd_T29 l0 x3_1).f0.f2) ((rd_T29 l0 x3_1).f0.f3) ((rd_T29 l0 x3_1).f0.f4) ((rd_T29 l0 x3_1).f0.f5) ((rd_T29 l0 x3_1).f0.f6) ((rd_T29 l0 x3_1).f0.f7) ((rd_T29 l0 x3_1).f0.f8) t152 t153 t154 t157 ((rd_T29 l0 x3_1).f0.f0) 1 (([1] : List Int)) 0) else (if ((rd_T29 l0 x3_1).f0.f4) = 4 then (gimballaw9_DrvNexts.j2 kj1 l0 x3_1 t158 t159 ((rd_T29 l0 x3_1).f0.f0) ((rd_T29 l0 x3_1).f0.f1) ((rd_T29 l0 x3_1).f0.f2) ((rd_T29 l0 x3_1).f0.f3) ((rd_T29 l0 x3_1).f0.f4) ((rd_T29 l0 x3_1).f0.f5) ((rd_T29 l0 x3_1).f0.f6) ((rd_T29 l0 x3_1).f0.f7) ((rd_T29 l0 x3_1).f0.f8) t152 t153 t154 t157 ((rd_T29 l0 x3_1).f0.f0) 3 ([] : List Int) 1) else (if ((rd_T29 l0 x3_1).f0.f4) = 5 then (gimballaw9_DrvNexts.j2 kj1 l0 x3_1 t158 t159 ((rd_T29 l0 x3_1).f0.f0) ((rd_T29 l0 x3_1).f0.f1) ((rd_T29 l0 x3_1).f0.f2) ((rd_T29 l0 x3_1).f0.f3) ((rd_T29 l0 x3_1).f0.f4) ((rd_T29 l0 x3_1).f0.f5) ((rd_T29 l0 x3_1).f0.f6) ((rd_T29 l0 x3_1).f0.f7) ((rd_T29 l0 x3_1).f0.f8) t152 t153 t154 t157 ((rd_T29 l0 x3_1).f0.f0) 4 ([] : List Int) (wrap64 (8 * ((rd_T29 l0 x3_1).f0.f7)))) else (if ((rd_T29 l0 x3_1).f0.f4) = 6 then (gimballaw9_DrvNexts.j2 kj1 l0 x3_1 t158 t159 ((rd_T29 l0 x3_1).f0.f0) ((rd_T29 l0 x3_1).f0.f1) ((rd_T29 l0 x3_1).f0.f2) ((rd_T29 l0 x3_1).f0.f3) ((rd_T29 l0 x3_1).f0.f4) ((rd_T29 l0 x3_1).f0.f5) ((rd_T29 l0 x3_1).f0.f6) ((rd_T29 l0 x3_1).f0.f7) ((rd_T29 l0 x3_1).f0.f8) t152 t153 t154 t157 ((rd_T29 l0 x3_1).f0.f0) 1 (([0] : List Int)) 0) else (if ((rd_T29 l0 x3_1).f0.f4) = 7 then (gimballaw9_DrvNexts.j2 kj1 l0 x3_1 t158 t159 ((rd_T29 l0 x3_1).f0.f0) ((rd_T29 l0 x3_1).f0.f1) ((rd_T29 l0 x3_1).f0.f2) ((rd_T29 l0 x3_1).f0.f3) ((rd_T29 l0 x3_1).f0.f4) ((rd_T29 l0 x3_1).f0.f5) ((rd_T29 l0 x3_1).f0.f6) ((rd_T29 l0 x3_1).f0.f7) ((rd_T29 l0 x3_1).f0.f8) t152 t153 t154 t157 ((rd_T29 l0 x3_1).f0.f0) 5 (([182] : List Int)) 0) else (gimballaw9_DrvNexts.j2 kj1 l0 x3_1 t158 t159 ((rd_T29 l0 x3_1).f0.f0) ((rd_T29 l0 x3_1).f0.f1) ((rd_T29 l0 x3_1).f0.f2) ((rd_T29 l0 x3_1).f0.f3) ((rd_T29 l0 x3_1).f0.f4) ((rd_T29 l0 x3_1).f0.f5) ((rd_T29 l0 x3_1).f0.f6) ((rd_T29 l0 x3_1).f0.f7) ((rd_T29 l0 x3_1).f0.f8) t152 t153 t154 t157 0 0 ([] : List Int) 0)))))))) = some r := by rw [if_pos rfl] at H; exact H
                  clear H
                  have H := H1
                  clear H1
                  have HC10 := Aside0.mk H
                  clear H
                  have p150 : 0 ≤ (x3_1 : Int) := of_decide_eq_true (by first | (with_reducible assumption) | assumption)
                  have q150 : x3_1 < (l0.length : Int) := of_decide_eq_true (by first | (with_reducible assumption) | assumption)
                  obtain ⟨ad150, A150_12, c150_12, e150, hx150_0, hx150_1, hx150_2, hx150_3, hx150_4, hx150_5, hx150_6, hx150_7, hx150_8, hx150_9, hx150_10, hx150_11, hx150_12, hl150_12, hi150_12⟩ := at_T29 HR0.out x3_1 p150 q150
                  cases e150
                  replace hx150_0 := (HB.out.cell (World.block_lt_of_cell? w _ hx150_0)).trans hx150_0
                  replace hx150_1 := (HB.out.cell (World.block_lt_of_cell? w _ hx150_1)).trans hx150_1
                  replace hx150_2 := (HB.out.cell (World.block_lt_of_cell? w _ hx150_2)).trans hx150_2
                  replace hx150_3 := (HB.out.cell (World.block_lt_of_cell? w _ hx150_3)).trans hx150_3
                  replace hx150_4 := (HB.out.cell (World.block_lt_of_cell? w _ hx150_4)).trans hx150_4
                  replace hx150_5 := (HB.out.cell (World.block_lt_of_cell? w _ hx150_5)).trans hx150_5
                  replace hx150_6 := (HB.out.cell (World.block_lt_of_cell? w _ hx150_6)).trans hx150_6
                  replace hx150_7 := (HB.out.cell (World.block_lt_of_cell? w _ hx150_7)).trans hx150_7
                  replace hx150_8 := (HB.out.cell (World.block_lt_of_cell? w _ hx150_8)).trans hx150_8
                  replace hx150_9 := (HB.out.cell (World.block_lt_of_cell? w _ hx150_9)).trans hx150_9
                  replace hx150_10 := (HB.out.cell (World.block_lt_of_cell? w _ hx150_10)).trans hx150_10
                  replace hx150_11 := (HB.out.cell (World.block_lt_of_cell? w _ hx150_11)).trans hx150_11
                  replace hx150_12 := (HB.out.cell (World.block_lt_of_cell? w _ hx150_12)).trans hx150_12
                  have HR150_12 := Aside0.mk hi150_12
                  have HC150_12 := Aside0.mk hl150_12
                  clear hi150_12 hl150_12
                  replace p150 := eq_true p150
                  replace q150 := eq_true q150
                  go_upto_block 2 with (first | ((with_reducible refine gate_dst (N := 4) rfl ?_); refine box_event ?hg (N := 4) ?hd (cs := #[.int .i64 0, .int .i64 0, .bool false, .int .i64 0, .int .i64 0, .int .i64 0, .bool false, .int .i64 0, .int .i64 0]) (t := 24) ?hr ?_; (case hd => rfl); (case hg => rfl); (case hr => first | (go_simp; done) | (go_simp; rfl)); intro gb151 hg w11 hbox hb; have n0_ := Aside0.mk (below_step (by repeat (first | (with_reducible first | exact HB.out | apply below_alloc | apply pw_below_drewN | apply below_drew1) | exact HB.out)) hb); have n1_ := Aside0.mk (hbox); have n2_ := Aside0.mk ((by rw [hg]; exact (below_size (by repeat (first | (with_reducible first | exact HB.out | apply below_alloc | apply pw_below_drewN | apply below_drew1) | exact HB.out))) : w.heap.size ≤ gb151)); have n3_ := Aside0.mk ((by rw [hg]; exact (below_size (by repeat (first | (with_reducible first | exact HB.out | apply below_alloc | apply pw_below_drewN | apply below_drew1) | exact HB.out))) : w.heap.size ≤ gb151)); clear HB; have HB := n0_; have BK151 := n1_; have GW151 := n2_; have GE151 := n3_; clear n0_ n1_ n2_ n3_; clear hb hbox hg; have hcz12_0 : w11.cell? ⟨gb151, 0, none⟩ = some (.int .i64 0) := (blk_cell BK151.out 0).trans rfl; have hcz12_1 : w11.cell? ⟨gb151, 1, none⟩ = some (.int .i64 0) := (blk_cell BK151.out 1).trans rfl; have hcz12_2 : w11.cell? ⟨gb151, 2, none⟩ = some (.bool false) := (blk_cell BK151.out 2).trans rfl; have hcz12_3 : w11.cell? ⟨gb151, 3, none⟩ = some (.int .i64 0) := (blk_cell BK151.out 3).trans rfl; have hcz12_4 : w11.cell? ⟨gb151, 4, none⟩ = some (.int .i64 0) := (blk_cell BK151.out 4).trans rfl; have hcz12_5 : w11.cell? ⟨gb151, 5, none⟩ = some (.int .i64 0) := (blk_cell BK151.out 5).trans rfl; have hcz12_6 : w11.cell? ⟨gb151, 6, none⟩ = some (.bool false) := (blk_cell BK151.out 6).trans rfl; have hcz12_7 : w11.cell? ⟨gb151, 7, none⟩ = some (.int .i64 0) := (blk_cell BK151.out 7).trans rfl; have hcz12_8 : w11.cell? ⟨gb151, 8, none⟩ = some (.int .i64 0) := (blk_cell BK151.out 8).trans rfl; have hfz12_0 := blk_frozen BK151.out 0; have hfz12_1 := blk_frozen BK151.out 1; have hfz12_2 := blk_frozen BK151.out 2; have hfz12_3 := blk_frozen BK151.out 3; have hfz12_4 := blk_frozen BK151.out 4; have hfz12_5 := blk_frozen BK151.out 5; have hfz12_6 := blk_frozen BK151.out 6; have hfz12_7 := blk_frozen BK151.out 7; have hfz12_8 := blk_frozen BK151.out 8) | ((with_reducible refine gate_callee (f := 9) rfl ?_); refine goesL_ (some 27) rfl rfl Try.func9 (by kernel_rfl) rfl #[.agg #[.int .i64 ((rd_T29 l0 x3_1).f0.f0), .int .i64 ((rd_T29 l0 x3_1).f0.f1), .bool ((rd_T29 l0 x3_1).f0.f2), .int .i64 ((rd_T29 l0 x3_1).f0.f3), .int .i64 ((rd_T29 l0 x3_1).f0.f4), .int .i64 ((rd_T29 l0 x3_1).f0.f5), .bool ((rd_T29 l0 x3_1).f0.f6), .int .i64 ((rd_T29 l0 x3_1).f0.f7), .int .i64 ((rd_T29 l0 x3_1).f0.f8)]] rfl (by (try simp only [List.map_toArray, List.map_cons, List.map_nil]); first | done | rfl | (simp only [List.length_drop, List.length_take]; rfl)) ?_; (with_reducible refine (drv_Next.calls ((rd_T29 l0 x3_1).f0.f0) ((rd_T29 l0 x3_1).f0.f1) ((rd_T29 l0 x3_1).f0.f2) ((rd_T29 l0 x3_1).f0.f3) ((rd_T29 l0 x3_1).f0.f4) ((rd_T29 l0 x3_1).f0.f5) ((rd_T29 l0 x3_1).f0.f6) ((rd_T29 l0 x3_1).f0.f7) ((rd_T29 l0 x3_1).f0.f8) t152 t153 t154 t157 t158 t159 _ A7.out).mono ?_); rintro e w13 ⟨v155, rfl, ho0, hb⟩; refine ⟨_, rfl, ?_⟩; have n0_ := Aside0.mk (Kd.R_lower ho0 (below_size (by repeat (first | (with_reducible first | exact HB.out | apply below_alloc | apply pw_below_drewN | apply below_drew1 | refine below_set ?_ GE151.out) | exact HB.out)))); have n1_ := Aside0.mk (blk_below (g := gb151) (o := .cells #[.int .i64 ((rd_T29 l0 x3_1).f0.f0), .int .i64 ((rd_T29 l0 x3_1).f0.f1), .bool ((rd_T29 l0 x3_1).f0.f2), .int .i64 ((rd_T29 l0 x3_1).f0.f3), .int .i64 ((rd_T29 l0 x3_1).f0.f4), .int .i64 ((rd_T29 l0 x3_1).f0.f5), .bool ((rd_T29 l0 x3_1).f0.f6), .int .i64 ((rd_T29 l0 x3_1).f0.f7), .int .i64 ((rd_T29 l0 x3_1).f0.f8)] 24 (0, 0)) (by (with_reducible repeat (first | refine blk_drewN ?_ _ | refine blk_drew ?_ | refine blk_alloc ?_ _)); refine blk_put (cs := #[.int .i64 ((rd_T29 l0 x3_1).f0.f0), .int .i64 ((rd_T29 l0 x3_1).f0.f1), .bool ((rd_T29 l0 x3_1).f0.f2), .int .i64 ((rd_T29 l0 x3_1).f0.f3), .int .i64 ((rd_T29 l0 x3_1).f0.f4), .int .i64 ((rd_T29 l0 x3_1).f0.f5), .bool ((rd_T29 l0 x3_1).f0.f6), .int .i64 ((rd_T29 l0 x3_1).f0.f7), .int .i64 0]) ?_ 8 _ rfl; (with_reducible repeat (first | refine blk_drewN ?_ _ | refine blk_drew ?_ | refine blk_alloc ?_ _)); refine blk_put (cs := #[.int .i64 ((rd_T29 l0 x3_1).f0.f0), .int .i64 ((rd_T29 l0 x3_1).f0.f1), .bool ((rd_T29 l0 x3_1).f0.f2), .int .i64 ((rd_T29 l0 x3_1).f0.f3), .int .i64 ((rd_T29 l0 x3_1).f0.f4), .int .i64 ((rd_T29 l0 x3_1).f0.f5), .bool ((rd_T29 l0 x3_1).f0.f6), .int .i64 0, .int .i64 0]) ?_ 7 _ rfl; (with_reducible repeat (first | refine blk_drewN ?_ _ | refine blk_drew ?_ | refine blk_alloc ?_ _)); refine blk_put (cs := #[.int .i64 ((rd_T29 l0 x3_1).f0.f0), .int .i64 ((rd_T29 l0 x3_1).f0.f1), .bool ((rd_T29 l0 x3_1).f0.f2), .int .i64 ((rd_T29 l0 x3_1).f0.f3), .int .i64 ((rd_T29 l0 x3_1).f0.f4), .int .i64 ((rd_T29 l0 x3_1).f0.f5), .bool false, .int .i64 0, .int .i64 0]) ?_ 6 _ rfl; (with_reducible repeat (first | refine blk_drewN ?_ _ | refine blk_drew ?_ | refine blk_alloc ?_ _)); refine blk_put (cs := #[.int .i64 ((rd_T29 l0 x3_1).f0.f0), .int .i64 ((rd_T29 l0 x3_1).f0.f1), .bool ((rd_T29 l0 x3_1).f0.f2), .int .i64 ((rd_T29 l0 x3_1).f0.f3), .int .i64 ((rd_T29 l0 x3_1).f0.f4), .int .i64 0, .bool false, .int .i64 0, .int .i64 0]) ?_ 5 _ rfl; (with_reducible repeat (first | refine blk_drewN ?_ _ | refine blk_drew ?_ | refine blk_alloc ?_ _)); refine blk_put (cs := #[.int .i64 ((rd_T29 l0 x3_1).f0.f0), .int .i64 ((rd_T29 l0 x3_1).f0.f1), .bool ((rd_T29 l0 x3_1).f0.f2), .int .i64 ((rd_T29 l0 x3_1).f0.f3), .int .i64 0, .int .i64 0, .bool false, .int .i64 0, .int .i64 0]) ?_ 4 _ rfl; (with_reducible repeat (first | refine blk_drewN ?_ _ | refine blk_drew ?_ | refine blk_alloc ?_ _)); refine blk_put (cs := #[.int .i64 ((rd_T29 l0 x3_1).f0.f0), .int .i64 ((rd_T29 l0 x3_1).f0.f1), .bool ((rd_T29 l0 x3_1).f0.f2), .int .i64 0, .int .i64 0, .int .i64 0, .bool false, .int .i64 0, .int .i64 0]) ?_ 3 _ rfl; (with_reducible repeat (first | refine blk_drewN ?_ _ | refine blk_drew ?_ | refine blk_alloc ?_ _)); refine blk_put (cs := #[.int .i64 ((rd_T29 l0 x3_1).f0.f0), .int .i64 ((rd_T29 l0 x3_1).f0.f1), .bool false, .int .i64 0, .int .i64 0, .int .i64 0, .bool false, .int .i64 0, .int .i64 0]) ?_ 2 _ rfl; (with_reducible repeat (first | refine blk_drewN ?_ _ | refine blk_drew ?_ | refine blk_alloc ?_ _)); refine blk_put (cs := #[.int .i64 ((rd_T29 l0 x3_1).f0.f0), .int .i64 0, .bool false, .int .i64 0, .int .i64 0, .int .i64 0, .bool false, .int .i64 0, .int .i64 0]) ?_ 1 _ rfl; (with_reducible repeat (first | refine blk_drewN ?_ _ | refine blk_drew ?_ | refine blk_alloc ?_ _)); refine blk_put (cs := #[.int .i64 0, .int .i64 0, .bool false, .int .i64 0, .int .i64 0, .int .i64 0, .bool false, .int .i64 0, .int .i64 0]) ?_ 0 _ rfl; (with_reducible repeat (first | refine blk_drewN ?_ _ | refine blk_drew ?_ | refine blk_alloc ?_ _)); exact BK151.out) hb); have n2_ := Aside0.mk (below_step (by repeat (first | (with_reducible first | exact HB.out | apply below_alloc | apply pw_below_drewN | apply below_drew1 | refine below_set ?_ GE151.out) | exact HB.out)) hb); clear BK151; clear HB; have HO156 := n0_; have BK151 := n1_; have HB := n2_; clear n0_ n1_ n2_; (try clear hb); (try clear hb2); (try clear hk); (try clear hi); (try clear ho0)) | ((with_reducible refine gate_dst (N := 5) rfl ?_); refine box_event ?hg (N := 5) ?hd (cs := #[.int .i64 0, .int .i64 0, .slice none 0 0, .int .i64 0]) (t := 31) ?hr ?_; (case hd => rfl); (case hg => rfl); (case hr => first | (go_simp; done) | (go_simp; rfl)); intro gb160 hg w14 hbox hb; have n0_ := Aside0.mk (Kd.R_below (by (with_reducible repeat (first | apply Kd.R_alloc | apply Kd.R_drewN | apply Kd.R_drew)); exact HO156.out) hb); have n1_ := Aside0.mk (blk_below (g := gb151) (o := .cells #[.int .i64 ((rd_T29 l0 x3_1).f0.f0), .int .i64 ((rd_T29 l0 x3_1).f0.f1), .bool ((rd_T29 l0 x3_1).f0.f2), .int .i64 ((rd_T29 l0 x3_1).f0.f3), .int .i64 ((rd_T29 l0 x3_1).f0.f4), .int .i64 ((rd_T29 l0 x3_1).f0.f5), .bool ((rd_T29 l0 x3_1).f0.f6), .int .i64 ((rd_T29 l0 x3_1).f0.f7), .int .i64 ((rd_T29 l0 x3_1).f0.f8)] 24 (0, 0)) (by (with_reducible repeat (first | refine blk_drewN ?_ _ | refine blk_drew ?_ | refine blk_alloc ?_ _)); exact BK151.out) hb); have n2_ := Aside0.mk (below_step (by repeat (first | (with_reducible first | exact HB.out | apply below_alloc | apply pw_below_drewN | apply below_drew1 | refine below_set ?_ GE151.out) | exact HB.out)) hb); have n3_ := Aside0.mk (hbox); have n4_ := Aside0.mk ((by rw [hg]; exact (below_size (by repeat (first | (with_reducible first | exact HB.out | apply below_alloc | apply pw_below_drewN | apply below_drew1 | refine below_set ?_ GE151.out) | exact HB.out))) : w.heap.size ≤ gb160)); have n5_ := Aside0.mk ((by rw [hg]; exact (below_size (by repeat (first | (with_reducible first | exact HB.out | apply below_alloc | apply pw_below_drewN | apply below_drew1 | refine below_set ?_ GE151.out) | exact HB.out))) : w.heap.size ≤ gb160)); have n6_ := Aside0.mk ((by rw [hg]; exact Nat.ne_of_lt (blk_lt (g := gb151) (o := .cells #[.int .i64 ((rd_T29 l0 x3_1).f0.f0), .int .i64 ((rd_T29 l0 x3_1).f0.f1), .bool ((rd_T29 l0 x3_1).f0.f2), .int .i64 ((rd_T29 l0 x3_1).f0.f3), .int .i64 ((rd_T29 l0 x3_1).f0.f4), .int .i64 ((rd_T29 l0 x3_1).f0.f5), .bool ((rd_T29 l0 x3_1).f0.f6), .int .i64 ((rd_T29 l0 x3_1).f0.f7), .int .i64 ((rd_T29 l0 x3_1).f0.f8)] 24 (0, 0)) (by (with_reducible repeat (first | refine blk_drewN ?_ _ | refine blk_drew ?_ | refine blk_alloc ?_ _)); exact BK151.out)) : gb151 ≠ gb160)); have n7_ := Aside0.mk ((by rw [hg]; exact Nat.ne_of_gt (blk_lt (g := gb151) (o := .cells #[.int .i64 ((rd_T29 l0 x3_1).f0.f0), .int .i64 ((rd_T29 l0 x3_1).f0.f1), .bool ((rd_T29 l0 x3_1).f0.f2), .int .i64 ((rd_T29 l0 x3_1).f0.f3), .int .i64 ((rd_T29 l0 x3_1).f0.f4), .int .i64 ((rd_T29 l0 x3_1).f0.f5), .bool ((rd_T29 l0 x3_1).f0.f6), .int .i64 ((rd_T29 l0 x3_1).f0.f7), .int .i64 ((rd_T29 l0 x3_1).f0.f8)] 24 (0, 0)) (by (with_reducible repeat (first | refine blk_drewN ?_ _ | refine blk_drew ?_ | refine blk_alloc ?_ _)); exact BK151.out)) : gb160 ≠ gb151)); clear HO156; clear BK151; clear HB; have HO156 := n0_; have BK151 := n1_; have HB := n2_; have BK160 := n3_; have GW160 := n4_; have GE160 := n5_; have NB151_160 := n6_; have NB160_151 := n7_; clear n0_ n1_ n2_ n3_ n4_ n5_ n6_ n7_; clear hb hbox hg; have hnb15 := NB160_151.out; have hnc15 := NB151_160.out; have hcz16_0 : w14.cell? ⟨gb160, 0, none⟩ = some (.int .i64 0) := (blk_cell BK160.out 0).trans rfl; have hcz16_1 : w14.cell? ⟨gb160, 1, none⟩ = some (.int .i64 0) := (blk_cell BK160.out 1).trans rfl; have hcz16_2 : w14.cell? ⟨gb160, 2, none⟩ = some (.slice none 0 0) := (blk_cell BK160.out 2).trans rfl; have hcz16_3 : w14.cell? ⟨gb160, 3, none⟩ = some (.int .i64 0) := (blk_cell BK160.out 3).trans rfl; have hfz16_0 := blk_frozen BK160.out 0; have hfz16_1 := blk_frozen BK160.out 1; have hfz16_2 := blk_frozen BK160.out 2; have hfz16_3 := blk_frozen BK160.out 3; obtain ⟨Ao17, co17, eo17⟩ := Kd.R_slice HO156.out; subst eo17; have hcz18_0 : w14.cell? ⟨gb151, 0, none⟩ = some (.int .i64 ((rd_T29 l0 x3_1).f0.f0)) := (blk_cell BK151.out 0).trans rfl; have hcz18_1 : w14.cell? ⟨gb151, 1, none⟩ = some (.int .i64 ((rd_T29 l0 x3_1).f0.f1)) := (blk_cell BK151.out 1).trans rfl; have hcz18_2 : w14.cell? ⟨gb151, 2, none⟩ = some (.bool ((rd_T29 l0 x3_1).f0.f2)) := (blk_cell BK151.out 2).trans rfl; have hcz18_3 : w14.cell? ⟨gb151, 3, none⟩ = some (.int .i64 ((rd_T29 l0 x3_1).f0.f3)) := (blk_cell BK151.out 3).trans rfl; have hcz18_4 : w14.cell? ⟨gb151, 4, none⟩ = some (.int .i64 ((rd_T29 l0 x3_1).f0.f4)) := (blk_cell BK151.out 4).trans rfl; have hcz18_5 : w14.cell? ⟨gb151, 5, none⟩ = some (.int .i64 ((rd_T29 l0 x3_1).f0.f5)) := (blk_cell BK151.out 5).trans rfl; have hcz18_6 : w14.cell? ⟨gb151, 6, none⟩ = some (.bool ((rd_T29 l0 x3_1).f0.f6)) := (blk_cell BK151.out 6).trans rfl; have hcz18_7 : w14.cell? ⟨gb151, 7, none⟩ = some (.int .i64 ((rd_T29 l0 x3_1).f0.f7)) := (blk_cell BK151.out 7).trans rfl; have hcz18_8 : w14.cell? ⟨gb151, 8, none⟩ = some (.int .i64 ((rd_T29 l0 x3_1).f0.f8)) := (blk_cell BK151.out 8).trans rfl; have hfz18_0 := blk_frozen BK151.out 0; have hfz18_1 := blk_frozen BK151.out 1; have hfz18_2 := blk_frozen BK151.out 2; have hfz18_3 := blk_frozen BK151.out 3; have hfz18_4 := blk_frozen BK151.out 4; have hfz18_5 := blk_frozen BK151.out 5; have hfz18_6 := blk_frozen BK151.out 6; have hfz18_7 := blk_frozen BK151.out 7; have hfz18_8 := blk_frozen BK151.out 8) | ((with_reducible refine gate_callee (f := 10) rfl ?_); refine goesL_ (some 32) rfl rfl Try.func10 (by kernel_rfl) rfl #[.agg #[.int .i64 ((rd_T29 l0 x3_1).f0.f0), .int .i64 ((rd_T29 l0 x3_1).f0.f1), .bool ((rd_T29 l0 x3_1).f0.f2), .int .i64 ((rd_T29 l0 x3_1).f0.f3), .int .i64 ((rd_T29 l0 x3_1).f0.f4), .int .i64 ((rd_T29 l0 x3_1).f0.f5), .bool ((rd_T29 l0 x3_1).f0.f6), .int .i64 ((rd_T29 l0 x3_1).f0.f7), .int .i64 ((rd_T29 l0 x3_1).f0.f8)]] rfl (by (try simp only [List.map_toArray, List.map_cons, List.map_nil]); first | done | rfl | (simp only [List.length_drop, List.length_take]; rfl)) ?_; (with_reducible refine (gimbalref9_May.calls kj1 ((rd_T29 l0 x3_1).f0.f0) ((rd_T29 l0 x3_1).f0.f1) ((rd_T29 l0 x3_1).f0.f2) ((rd_T29 l0 x3_1).f0.f3) ((rd_T29 l0 x3_1).f0.f4) ((rd_T29 l0 x3_1).f0.f5) ((rd_T29 l0 x3_1).f0.f6) ((rd_T29 l0 x3_1).f0.f7) ((rd_T29 l0 x3_1).f0.f8) true _ A8.out).mono ?_); rintro e w19 ⟨rfl, hb⟩; refine ⟨_, rfl, ?_⟩; have n0_ := Aside0.mk (Kd.R_below (by (with_reducible repeat (first | apply Kd.R_alloc | apply Kd.R_drewN | apply Kd.R_drew)); exact (Kd.R_mono (Kd.R_far (p := ⟨gb160, 3, none⟩) (Kd.R_far (p := ⟨gb160, 2, none⟩) (Kd.R_far (p := ⟨gb160, 1, none⟩) (Kd.R_far (p := ⟨gb160, 0, none⟩) (Kd.R_types HO156.out BK160.out (by decide)) (fun _ hk => hk.2) (.int .i64 t152)) (fun _ hk => hk.2) (.int .i64 t153)) (fun _ hk => hk.2) (.slice Ao17 t154.length co17)) (fun _ hk => hk.2) (.int .i64 t157)) (fun _ h_ => h_.1))) hb); have n1_ := Aside0.mk (blk_below (g := gb151) (o := .cells #[.int .i64 ((rd_T29 l0 x3_1).f0.f0), .int .i64 ((rd_T29 l0 x3_1).f0.f1), .bool ((rd_T29 l0 x3_1).f0.f2), .int .i64 ((rd_T29 l0 x3_1).f0.f3), .int .i64 ((rd_T29 l0 x3_1).f0.f4), .int .i64 ((rd_T29 l0 x3_1).f0.f5), .bool ((rd_T29 l0 x3_1).f0.f6), .int .i64 ((rd_T29 l0 x3_1).f0.f7), .int .i64 ((rd_T29 l0 x3_1).f0.f8)] 24 (0, 0)) (by (with_reducible repeat (first | refine blk_drewN ?_ _ | refine blk_drew ?_ | refine blk_alloc ?_ _)); refine blk_far ?_ NB151_160.out _; (with_reducible repeat (first | refine blk_drewN ?_ _ | refine blk_drew ?_ | refine blk_alloc ?_ _)); refine blk_far ?_ NB151_160.out _; (with_reducible repeat (first | refine blk_drewN ?_ _ | refine blk_drew ?_ | refine blk_alloc ?_ _)); refine blk_far ?_ NB151_160.out _; (with_reducible repeat (first | refine blk_drewN ?_ _ | refine blk_drew ?_ | refine blk_alloc ?_ _)); refine blk_far ?_ NB151_160.out _; (with_reducible repeat (first | refine blk_drewN ?_ _ | refine blk_drew ?_ | refine blk_alloc ?_ _)); exact BK151.out) hb); have n2_ := Aside0.mk (blk_below (g := gb160) (o := .cells #[.int .i64 t152, .int .i64 t153, .slice Ao17 t154.length co17, .int .i64 t157] 31 (0, 0)) (by (with_reducible repeat (first | refine blk_drewN ?_ _ | refine blk_drew ?_ | refine blk_alloc ?_ _)); refine blk_put (cs := #[.int .i64 t152, .int .i64 t153, .slice Ao17 t154.length co17, .int .i64 0]) ?_ 3 _ rfl; (with_reducible repeat (first | refine blk_drewN ?_ _ | refine blk_drew ?_ | refine blk_alloc ?_ _)); refine blk_put (cs := #[.int .i64 t152, .int .i64 t153, .slice none 0 0, .int .i64 0]) ?_ 2 _ rfl; (with_reducible repeat (first | refine blk_drewN ?_ _ | refine blk_drew ?_ | refine blk_alloc ?_ _)); refine blk_put (cs := #[.int .i64 t152, .int .i64 0, .slice none 0 0, .int .i64 0]) ?_ 1 _ rfl; (with_reducible repeat (first | refine blk_drewN ?_ _ | refine blk_drew ?_ | refine blk_alloc ?_ _)); refine blk_put (cs := #[.int .i64 0, .int .i64 0, .slice none 0 0, .int .i64 0]) ?_ 0 _ rfl; (with_reducible repeat (first | refine blk_drewN ?_ _ | refine blk_drew ?_ | refine blk_alloc ?_ _)); exact BK160.out) hb); have n3_ := Aside0.mk (below_step (by repeat (first | (with_reducible first | exact HB.out | apply below_alloc | apply pw_below_drewN | apply below_drew1 | refine below_set ?_ GE151.out | refine below_set ?_ GE160.out) | exact HB.out)) hb); clear HO156; clear BK151; clear BK160; clear HB; have HO156 := n0_; have BK151 := n1_; have BK160 := n2_; have HB := n3_; clear n0_ n1_ n2_ n3_; (try clear hb); (try clear hb2); (try clear hk); (try clear hi)) | ((with_reducible refine gate_dst (N := 8) rfl ?_); refine box_event ?hg (N := 8) ?hd (cs := #[.int .i64 0, .int .i64 0, .slice none 0 0, .int .i64 0]) (t := 31) ?hr ?_; (case hd => rfl); (case hg => rfl); (case hr => first | (go_simp; done) | (go_simp; rfl)); intro gb164 hg w20 hbox hb; have n0_ := Aside0.mk (Kd.R_below (by (with_reducible repeat (first | apply Kd.R_alloc | apply Kd.R_drewN | apply Kd.R_drew)); exact HO156.out) hb); have n1_ := Aside0.mk (blk_below (g := gb151) (o := .cells #[.int .i64 ((rd_T29 l0 x3_1).f0.f0), .int .i64 ((rd_T29 l0 x3_1).f0.f1), .bool ((rd_T29 l0 x3_1).f0.f2), .int .i64 ((rd_T29 l0 x3_1).f0.f3), .int .i64 ((rd_T29 l0 x3_1).f0.f4), .int .i64 ((rd_T29 l0 x3_1).f0.f5), .bool ((rd_T29 l0 x3_1).f0.f6), .int .i64 ((rd_T29 l0 x3_1).f0.f7), .int .i64 ((rd_T29 l0 x3_1).f0.f8)] 24 (0, 0)) (by (with_reducible repeat (first | refine blk_drewN ?_ _ | refine blk_drew ?_ | refine blk_alloc ?_ _)); exact BK151.out) hb); have n2_ := Aside0.mk (blk_below (g := gb160) (o := .cells #[.int .i64 t152, .int .i64 t153, .slice Ao17 t154.length co17, .int .i64 t157] 31 (0, 0)) (by (with_reducible repeat (first | refine blk_drewN ?_ _ | refine blk_drew ?_ | refine blk_alloc ?_ _)); exact BK160.out) hb); have n3_ := Aside0.mk (below_step (by repeat (first | (with_reducible first | exact HB.out | apply below_alloc | apply pw_below_drewN | apply below_drew1 | refine below_set ?_ GE151.out | refine below_set ?_ GE160.out) | exact HB.out)) hb); have n4_ := Aside0.mk (hbox); have n5_ := Aside0.mk ((by rw [hg]; exact (below_size (by repeat (first | (with_reducible first | exact HB.out | apply below_alloc | apply pw_below_drewN | apply below_drew1 | refine below_set ?_ GE151.out | refine below_set ?_ GE160.out) | exact HB.out))) : w.heap.size ≤ gb164)); have n6_ := Aside0.mk ((by rw [hg]; exact (below_size (by repeat (first | (with_reducible first | exact HB.out | apply below_alloc | apply pw_below_drewN | apply below_drew1 | refine below_set ?_ GE151.out | refine below_set ?_ GE160.out) | exact HB.out))) : w.heap.size ≤ gb164)); have n7_ := Aside0.mk ((by rw [hg]; exact Nat.ne_of_lt (blk_lt (g := gb151) (o := .cells #[.int .i64 ((rd_T29 l0 x3_1).f0.f0), .int .i64 ((rd_T29 l0 x3_1).f0.f1), .bool ((rd_T29 l0 x3_1).f0.f2), .int .i64 ((rd_T29 l0 x3_1).f0.f3), .int .i64 ((rd_T29 l0 x3_1).f0.f4), .int .i64 ((rd_T29 l0 x3_1).f0.f5), .bool ((rd_T29 l0 x3_1).f0.f6), .int .i64 ((rd_T29 l0 x3_1).f0.f7), .int .i64 ((rd_T29 l0 x3_1).f0.f8)] 24 (0, 0)) (by (with_reducible repeat (first | refine blk_drewN ?_ _ | refine blk_drew ?_ | refine blk_alloc ?_ _)); exact BK151.out)) : gb151 ≠ gb164)); have n8_ := Aside0.mk ((by rw [hg]; exact Nat.ne_of_gt (blk_lt (g := gb151) (o := .cells #[.int .i64 ((rd_T29 l0 x3_1).f0.f0), .int .i64 ((rd_T29 l0 x3_1).f0.f1), .bool ((rd_T29 l0 x3_1).f0.f2), .int .i64 ((rd_T29 l0 x3_1).f0.f3), .int .i64 ((rd_T29 l0 x3_1).f0.f4), .int .i64 ((rd_T29 l0 x3_1).f0.f5), .bool ((rd_T29 l0 x3_1).f0.f6), .int .i64 ((rd_T29 l0 x3_1).f0.f7), .int .i64 ((rd_T29 l0 x3_1).f0.f8)] 24 (0, 0)) (by (with_reducible repeat (first | refine blk_drewN ?_ _ | refine blk_drew ?_ | refine blk_alloc ?_ _)); exact BK151.out)) : gb164 ≠ gb151)); have n9_ := Aside0.mk ((by rw [hg]; exact Nat.ne_of_lt (blk_lt (g := gb160) (o := .cells #[.int .i64 t152, .int .i64 t153, .slice Ao17 t154.length co17, .int .i64 t157] 31 (0, 0)) (by (with_reducible repeat (first | refine blk_drewN ?_ _ | refine blk_drew ?_ | refine blk_alloc ?_ _)); exact BK160.out)) : gb160 ≠ gb164)); have n10_ := Aside0.mk ((by rw [hg]; exact Nat.ne_of_gt (blk_lt (g := gb160) (o := .cells #[.int .i64 t152, .int .i64 t153, .slice Ao17 t154.length co17, .int .i64 t157] 31 (0, 0)) (by (with_reducible repeat (first | refine blk_drewN ?_ _ | refine blk_drew ?_ | refine blk_alloc ?_ _)); exact BK160.out)) : gb164 ≠ gb160)); clear HO156; clear BK151; clear BK160; clear HB; have HO156 := n0_; have BK151 := n1_; have BK160 := n2_; have HB := n3_; have BK164 := n4_; have GW164 := n5_; have GE164 := n6_; have NB151_164 := n7_; have NB164_151 := n8_; have NB160_164 := n9_; have NB164_160 := n10_; clear n0_ n1_ n2_ n3_ n4_ n5_ n6_ n7_ n8_ n9_ n10_; clear hb hbox hg; have hnb21 := NB164_151.out; have hnc21 := NB151_164.out; have hnb22 := NB164_160.out; have hnc22 := NB160_164.out; have hcz23_0 : w20.cell? ⟨gb164, 0, none⟩ = some (.int .i64 0) := (blk_cell BK164.out 0).trans rfl; have hcz23_1 : w20.cell? ⟨gb164, 1, none⟩ = some (.int .i64 0) := (blk_cell BK164.out 1).trans rfl; have hcz23_2 : w20.cell? ⟨gb164, 2, none⟩ = some (.slice none 0 0) := (blk_cell BK164.out 2).trans rfl; have hcz23_3 : w20.cell? ⟨gb164, 3, none⟩ = some (.int .i64 0) := (blk_cell BK164.out 3).trans rfl; have hfz23_0 := blk_frozen BK164.out 0; have hfz23_1 := blk_frozen BK164.out 1; have hfz23_2 := blk_frozen BK164.out 2; have hfz23_3 := blk_frozen BK164.out 3; have hcz24_0 : w20.cell? ⟨gb151, 0, none⟩ = some (.int .i64 ((rd_T29 l0 x3_1).f0.f0)) := (blk_cell BK151.out 0).trans rfl; have hcz24_1 : w20.cell? ⟨gb151, 1, none⟩ = some (.int .i64 ((rd_T29 l0 x3_1).f0.f1)) := (blk_cell BK151.out 1).trans rfl; have hcz24_2 : w20.cell? ⟨gb151, 2, none⟩ = some (.bool ((rd_T29 l0 x3_1).f0.f2)) := (blk_cell BK151.out 2).trans rfl; have hcz24_3 : w20.cell? ⟨gb151, 3, none⟩ = some (.int .i64 ((rd_T29 l0 x3_1).f0.f3)) := (blk_cell BK151.out 3).trans rfl; have hcz24_4 : w20.cell? ⟨gb151, 4, none⟩ = some (.int .i64 ((rd_T29 l0 x3_1).f0.f4)) := (blk_cell BK151.out 4).trans rfl; have hcz24_5 : w20.cell? ⟨gb151, 5, none⟩ = some (.int .i64 ((rd_T29 l0 x3_1).f0.f5)) := (blk_cell BK151.out 5).trans rfl; have hcz24_6 : w20.cell? ⟨gb151, 6, none⟩ = some (.bool ((rd_T29 l0 x3_1).f0.f6)) := (blk_cell BK151.out 6).trans rfl; have hcz24_7 : w20.cell? ⟨gb151, 7, none⟩ = some (.int .i64 ((rd_T29 l0 x3_1).f0.f7)) := (blk_cell BK151.out 7).trans rfl; have hcz24_8 : w20.cell? ⟨gb151, 8, none⟩ = some (.int .i64 ((rd_T29 l0 x3_1).f0.f8)) := (blk_cell BK151.out 8).trans rfl; have hfz24_0 := blk_frozen BK151.out 0; have hfz24_1 := blk_frozen BK151.out 1; have hfz24_2 := blk_frozen BK151.out 2; have hfz24_3 := blk_frozen BK151.out 3; have hfz24_4 := blk_frozen BK151.out 4; have hfz24_5 := blk_frozen BK151.out 5; have hfz24_6 := blk_frozen BK151.out 6; have hfz24_7 := blk_frozen BK151.out 7; have hfz24_8 := blk_frozen BK151.out 8))
                  (try simp only [Act.put, List.setIfInBounds_toArray, List.set_cons_zero, List.set_cons_succ])
                  go_cut [] (fun wc => ∃ (kq : Nat) (x165000_9 : Int) (x165001_9 : Int) (x165002_9 : List Int) (x165003_9 : Int) (u165002 : Value), Aside0 (gimballaw9_DrvNexts.j2 kq l0 x3_1 t158 t159 ((rd_T29 l0 x3_1).f0.f0) ((rd_T29 l0 x3_1).f0.f1) ((rd_T29 l0 x3_1).f0.f2) ((rd_T29 l0 x3_1).f0.f3) ((rd_T29 l0 x3_1).f0.f4) ((rd_T29 l0 x3_1).f0.f5) ((rd_T29 l0 x3_1).f0.f6) ((rd_T29 l0 x3_1).f0.f7) ((rd_T29 l0 x3_1).f0.f8) t152 t153 t154 t157 x165000_9 x165001_9 x165002_9 x165003_9 = some r) ∧ Aside0 (kq ≤ kj1) ∧ Aside0 (Kd.R (Kd.int .u8) 5 wc w.heap.size (fun k_ => some k_ ≠ (u165002 : Value).ownBlock) (.slice Ao17 t154.length co17) t154) ∧ Aside0 (Kd.R (Kd.int .u8) 5 wc w.heap.size (fun k_ => some k_ ≠ ((.slice Ao17 t154.length co17) : Value).ownBlock) u165002 x165002_9) ∧ Aside0 (wc.heap[gb151]? = some (.cells #[.int .i64 ((rd_T29 l0 x3_1).f0.f0), .int .i64 ((rd_T29 l0 x3_1).f0.f1), .bool ((rd_T29 l0 x3_1).f0.f2), .int .i64 ((rd_T29 l0 x3_1).f0.f3), .int .i64 ((rd_T29 l0 x3_1).f0.f4), .int .i64 ((rd_T29 l0 x3_1).f0.f5), .bool ((rd_T29 l0 x3_1).f0.f6), .int .i64 ((rd_T29 l0 x3_1).f0.f7), .int .i64 ((rd_T29 l0 x3_1).f0.f8)] 24 (0, 0))) ∧ Aside0 (wc.heap[gb160]? = some (.cells #[.int .i64 t152, .int .i64 t153, (.slice Ao17 t154.length co17), .int .i64 t157] 31 (0, 0))) ∧ Aside0 (wc.heap[gb164]? = some (.cells #[.int .i64 x165000_9, .int .i64 x165001_9, u165002, .int .i64 x165003_9] 31 (0, 0))) ∧ Aside0 (Below w.heap.size w wc))
                  case first =>
                    have H := HC10.out
                    clear HC10
                    by_cases c25 : ((rd_T29 l0 x3_1).f0.f4) = 1
                    · rw [if_pos c25] at H
                      have c25b0 : (((rd_T29 l0 x3_1).f0.f4) == 1) = true := beq_iff_eq.mpr c25
                      have c25b1 : (((rd_T29 l0 x3_1).f0.f4) != 1) = false := bne_eq_false_iff_eq.mpr c25
                      clear c25
                      (first | rw [c25b0] | (simp only [i64_w, i32_w]; rw [c25b0]) | skip)
                      have H' := Aside0.mk H
                      clear H
                      have hnb26 := NB151_160.out
                      have hnc26 := NB160_151.out
                      have hnb27 := NB151_164.out
                      have hnc27 := NB164_151.out
                      have hcz28_0 : w20.cell? ⟨gb151, 0, none⟩ = some (.int .i64 ((rd_T29 l0 x3_1).f0.f0)) := (blk_cell BK151.out 0).trans rfl
                      have hcz28_1 : w20.cell? ⟨gb151, 1, none⟩ = some (.int .i64 ((rd_T29 l0 x3_1).f0.f1)) := (blk_cell BK151.out 1).trans rfl
                      have hcz28_2 : w20.cell? ⟨gb151, 2, none⟩ = some (.bool ((rd_T29 l0 x3_1).f0.f2)) := (blk_cell BK151.out 2).trans rfl
                      have hcz28_3 : w20.cell? ⟨gb151, 3, none⟩ = some (.int .i64 ((rd_T29 l0 x3_1).f0.f3)) := (blk_cell BK151.out 3).trans rfl
                      have hcz28_4 : w20.cell? ⟨gb151, 4, none⟩ = some (.int .i64 ((rd_T29 l0 x3_1).f0.f4)) := (blk_cell BK151.out 4).trans rfl
                      have hcz28_5 : w20.cell? ⟨gb151, 5, none⟩ = some (.int .i64 ((rd_T29 l0 x3_1).f0.f5)) := (blk_cell BK151.out 5).trans rfl
                      have hcz28_6 : w20.cell? ⟨gb151, 6, none⟩ = some (.bool ((rd_T29 l0 x3_1).f0.f6)) := (blk_cell BK151.out 6).trans rfl
                      have hcz28_7 : w20.cell? ⟨gb151, 7, none⟩ = some (.int .i64 ((rd_T29 l0 x3_1).f0.f7)) := (blk_cell BK151.out 7).trans rfl
                      have hcz28_8 : w20.cell? ⟨gb151, 8, none⟩ = some (.int .i64 ((rd_T29 l0 x3_1).f0.f8)) := (blk_cell BK151.out 8).trans rfl
                      have hfz28_0 := blk_frozen BK151.out 0
                      have hfz28_1 := blk_frozen BK151.out 1
                      have hfz28_2 := blk_frozen BK151.out 2
                      have hfz28_3 := blk_frozen BK151.out 3
                      have hfz28_4 := blk_frozen BK151.out 4
                      have hfz28_5 := blk_frozen BK151.out 5
                      have hfz28_6 := blk_frozen BK151.out 6
                      have hfz28_7 := blk_frozen BK151.out 7
                      have hfz28_8 := blk_frozen BK151.out 8
                      have hnb29 := NB164_160.out
                      have hnc29 := NB160_164.out
                      have hcz30_0 : w20.cell? ⟨gb164, 0, none⟩ = some (.int .i64 0) := (blk_cell BK164.out 0).trans rfl
                      have hcz30_1 : w20.cell? ⟨gb164, 1, none⟩ = some (.int .i64 0) := (blk_cell BK164.out 1).trans rfl
                      have hcz30_2 : w20.cell? ⟨gb164, 2, none⟩ = some (.slice none 0 0) := (blk_cell BK164.out 2).trans rfl
                      have hcz30_3 : w20.cell? ⟨gb164, 3, none⟩ = some (.int .i64 0) := (blk_cell BK164.out 3).trans rfl
                      have hfz30_0 := blk_frozen BK164.out 0
                      have hfz30_1 := blk_frozen BK164.out 1
                      have hfz30_2 := blk_frozen BK164.out 2
                      have hfz30_3 := blk_frozen BK164.out 3
                      go_wp2
                      go_meet
                      case rel => exact ⟨_, ((rd_T29 l0 x3_1).f0.f0), (0), (([] : List Int)), (1), (.slice none 0 0), H', ⟨by have := HK1.out; have := HJ1.out; first | omega | exact Nat.le_refl _⟩, ⟨by (with_reducible repeat (first | apply Kd.R_alloc | apply Kd.R_drewN | apply Kd.R_drew)); exact Kd.R_mono (Kd.R_far (p := ⟨gb164, 3, none⟩) (Kd.R_far (p := ⟨gb164, 2, none⟩) (Kd.R_far (p := ⟨gb164, 1, none⟩) (Kd.R_far (p := ⟨gb164, 0, none⟩) (Kd.R_far (p := ⟨gb164, 3, none⟩) (Kd.R_far (p := ⟨gb164, 2, none⟩) (Kd.R_far (p := ⟨gb164, 1, none⟩) (Kd.R_far (p := ⟨gb164, 0, none⟩) (Kd.R_types HO156.out BK164.out (by decide)) (fun _ hk => hk.2) (.int .i64 0)) (fun _ hk => hk.2) (.int .i64 0)) (fun _ hk => hk.2) (.slice none 0 0)) (fun _ hk => hk.2) (.int .i64 0)) (fun _ hk => hk.2) (.int .i64 ((rd_T29 l0 x3_1).f0.f0))) (fun _ hk => hk.2) (.int .i64 0)) (fun _ hk => hk.2) (.slice none 0 0)) (fun _ hk => hk.2) (.int .i64 1)) (fun _ hk => (by simp [Value.ownBlock]))⟩, ⟨by first | exact Kd.R_nil _ _ _ _ _ | exact Kd.N_nil _ _ _ _ _ | exact Kd.V_nil _ _ _ _ _ | exact Kd.Q_nil _ _ _ _ _ | exact Kd.S_nil _ _ _ _ _⟩, ⟨by (with_reducible repeat (first | refine blk_drewN ?_ _ | refine blk_drew ?_ | refine blk_alloc ?_ _)); refine blk_far ?_ NB151_164.out _; (with_reducible repeat (first | refine blk_drewN ?_ _ | refine blk_drew ?_ | refine blk_alloc ?_ _)); refine blk_far ?_ NB151_164.out _; (with_reducible repeat (first | refine blk_drewN ?_ _ | refine blk_drew ?_ | refine blk_alloc ?_ _)); refine blk_far ?_ NB151_164.out _; (with_reducible repeat (first | refine blk_drewN ?_ _ | refine blk_drew ?_ | refine blk_alloc ?_ _)); refine blk_far ?_ NB151_164.out _; (with_reducible repeat (first | refine blk_drewN ?_ _ | refine blk_drew ?_ | refine blk_alloc ?_ _)); refine blk_far ?_ NB151_164.out _; (with_reducible repeat (first | refine blk_drewN ?_ _ | refine blk_drew ?_ | refine blk_alloc ?_ _)); refine blk_far ?_ NB151_164.out _; (with_reducible repeat (first | refine blk_drewN ?_ _ | refine blk_drew ?_ | refine blk_alloc ?_ _)); refine blk_far ?_ NB151_164.out _; (with_reducible repeat (first | refine blk_drewN ?_ _ | refine blk_drew ?_ | refine blk_alloc ?_ _)); refine blk_far ?_ NB151_164.out _; (with_reducible repeat (first | refine blk_drewN ?_ _ | refine blk_drew ?_ | refine blk_alloc ?_ _)); exact BK151.out⟩, ⟨by (with_reducible repeat (first | refine blk_drewN ?_ _ | refine blk_drew ?_ | refine blk_alloc ?_ _)); refine blk_far ?_ NB160_164.out _; (with_reducible repeat (first | refine blk_drewN ?_ _ | refine blk_drew ?_ | refine blk_alloc ?_ _)); refine blk_far ?_ NB160_164.out _; (with_reducible repeat (first | refine blk_drewN ?_ _ | refine blk_drew ?_ | refine blk_alloc ?_ _)); refine blk_far ?_ NB160_164.out _; (with_reducible repeat (first | refine blk_drewN ?_ _ | refine blk_drew ?_ | refine blk_alloc ?_ _)); refine blk_far ?_ NB160_164.out _; (with_reducible repeat (first | refine blk_drewN ?_ _ | refine blk_drew ?_ | refine blk_alloc ?_ _)); refine blk_far ?_ NB160_164.out _; (with_reducible repeat (first | refine blk_drewN ?_ _ | refine blk_drew ?_ | refine blk_alloc ?_ _)); refine blk_far ?_ NB160_164.out _; (with_reducible repeat (first | refine blk_drewN ?_ _ | refine blk_drew ?_ | refine blk_alloc ?_ _)); refine blk_far ?_ NB160_164.out _; (with_reducible repeat (first | refine blk_drewN ?_ _ | refine blk_drew ?_ | refine blk_alloc ?_ _)); refine blk_far ?_ NB160_164.out _; (with_reducible repeat (first | refine blk_drewN ?_ _ | refine blk_drew ?_ | refine blk_alloc ?_ _)); exact BK160.out⟩, ⟨by (with_reducible repeat (first | refine blk_drewN ?_ _ | refine blk_drew ?_ | refine blk_alloc ?_ _)); refine blk_put (cs := #[.int .i64 ((rd_T29 l0 x3_1).f0.f0), .int .i64 0, .slice none 0 0, .int .i64 0]) ?_ 3 _ rfl; (with_reducible repeat (first | refine blk_drewN ?_ _ | refine blk_drew ?_ | refine blk_alloc ?_ _)); refine blk_put (cs := #[.int .i64 ((rd_T29 l0 x3_1).f0.f0), .int .i64 0, .slice none 0 0, .int .i64 0]) ?_ 2 _ rfl; (with_reducible repeat (first | refine blk_drewN ?_ _ | refine blk_drew ?_ | refine blk_alloc ?_ _)); refine blk_put (cs := #[.int .i64 ((rd_T29 l0 x3_1).f0.f0), .int .i64 0, .slice none 0 0, .int .i64 0]) ?_ 1 _ rfl; (with_reducible repeat (first | refine blk_drewN ?_ _ | refine blk_drew ?_ | refine blk_alloc ?_ _)); refine blk_put (cs := #[.int .i64 0, .int .i64 0, .slice none 0 0, .int .i64 0]) ?_ 0 _ rfl; (with_reducible repeat (first | refine blk_drewN ?_ _ | refine blk_drew ?_ | refine blk_alloc ?_ _)); refine blk_put (cs := #[.int .i64 0, .int .i64 0, .slice none 0 0, .int .i64 0]) ?_ 3 _ rfl; (with_reducible repeat (first | refine blk_drewN ?_ _ | refine blk_drew ?_ | refine blk_alloc ?_ _)); refine blk_put (cs := #[.int .i64 0, .int .i64 0, .slice none 0 0, .int .i64 0]) ?_ 2 _ rfl; (with_reducible repeat (first | refine blk_drewN ?_ _ | refine blk_drew ?_ | refine blk_alloc ?_ _)); refine blk_put (cs := #[.int .i64 0, .int .i64 0, .slice none 0 0, .int .i64 0]) ?_ 1 _ rfl; (with_reducible repeat (first | refine blk_drewN ?_ _ | refine blk_drew ?_ | refine blk_alloc ?_ _)); refine blk_put (cs := #[.int .i64 0, .int .i64 0, .slice none 0 0, .int .i64 0]) ?_ 0 _ rfl; (with_reducible repeat (first | refine blk_drewN ?_ _ | refine blk_drew ?_ | refine blk_alloc ?_ _)); exact BK164.out⟩, ⟨by repeat (first | (with_reducible first | exact HB.out | apply below_alloc | apply pw_below_drewN | apply below_drew1 | refine below_set ?_ GE151.out | refine below_set ?_ GE160.out | refine below_set ?_ GE164.out) | exact HB.out)⟩⟩
                    · rw [if_neg c25] at H
                      have c25b0 : (((rd_T29 l0 x3_1).f0.f4) == 1) = false := beq_eq_false_iff_ne.mpr c25
                      have c25b1 : (((rd_T29 l0 x3_1).f0.f4) != 1) = true := bne_iff_ne.mpr c25
                      (first | rw [c25b0] | (simp only [i64_w, i32_w]; rw [c25b0]) | skip)
                      by_cases c31 : ((rd_T29 l0 x3_1).f0.f4) = 2
                      · rw [if_pos c31] at H
                        have c31b0 : (((rd_T29 l0 x3_1).f0.f4) == 2) = true := beq_iff_eq.mpr c31
                        have c31b1 : (((rd_T29 l0 x3_1).f0.f4) != 2) = false := bne_eq_false_iff_eq.mpr c31
                        clear c31
                        obtain ⟨y165, hy165⟩ : ∃ y_ : List Int, y_ = (([((rd_T29 l0 x3_1).f0.f3) % 256] : List Int)) := ⟨_, rfl⟩
                        replace H : (gimballaw9_DrvNexts.j2 kj1 l0 x3_1 t158 t159 ((rd_T29 l0 x3_1).f0.f0) ((rd_T29 l0 x3_1).f0.f1) ((rd_T29 l0 x3_1).f0.f2) ((rd_T29 l0 x3_1).f0.f3) ((rd_T29 l0 x3_1).f0.f4) ((rd_T29 l0 x3_1).f0.f5) ((rd_T29 l0 x3_1).f0.f6) ((rd_T29 l0 x3_1).f0.f7) ((rd_T29 l0 x3_1).f0.f8) t152 t153 t154 t157 ((rd_T29 l0 x3_1).f0.f0) 2 y165 0) = some r := by first | (rw [hy165]; with_reducible exact H) | (have H2_ := (Option.bind_some _ _).symm.trans H; rw [hy165]; with_reducible exact H2_) | (have H2_ := (Option.bind_some _ _).symm.trans H; with_reducible exact H2_) | with_reducible exact H | (rw [hy165]; exact H) | exact H
                        have Ny165 := Aside0.mk hy165
                        clear hy165
                        have H' := Aside0.mk H
                        clear H
                        have hnb32 := NB151_160.out
                        have hnc32 := NB160_151.out
                        have hnb33 := NB151_164.out
                        have hnc33 := NB164_151.out
                        have hcz34_0 : w20.cell? ⟨gb151, 0, none⟩ = some (.int .i64 ((rd_T29 l0 x3_1).f0.f0)) := (blk_cell BK151.out 0).trans rfl
                        have hcz34_1 : w20.cell? ⟨gb151, 1, none⟩ = some (.int .i64 ((rd_T29 l0 x3_1).f0.f1)) := (blk_cell BK151.out 1).trans rfl
                        have hcz34_2 : w20.cell? ⟨gb151, 2, none⟩ = some (.bool ((rd_T29 l0 x3_1).f0.f2)) := (blk_cell BK151.out 2).trans rfl
                        have hcz34_3 : w20.cell? ⟨gb151, 3, none⟩ = some (.int .i64 ((rd_T29 l0 x3_1).f0.f3)) := (blk_cell BK151.out 3).trans rfl
                        have hcz34_4 : w20.cell? ⟨gb151, 4, none⟩ = some (.int .i64 ((rd_T29 l0 x3_1).f0.f4)) := (blk_cell BK151.out 4).trans rfl
                        have hcz34_5 : w20.cell? ⟨gb151, 5, none⟩ = some (.int .i64 ((rd_T29 l0 x3_1).f0.f5)) := (blk_cell BK151.out 5).trans rfl
                        have hcz34_6 : w20.cell? ⟨gb151, 6, none⟩ = some (.bool ((rd_T29 l0 x3_1).f0.f6)) := (blk_cell BK151.out 6).trans rfl
                        have hcz34_7 : w20.cell? ⟨gb151, 7, none⟩ = some (.int .i64 ((rd_T29 l0 x3_1).f0.f7)) := (blk_cell BK151.out 7).trans rfl
                        have hcz34_8 : w20.cell? ⟨gb151, 8, none⟩ = some (.int .i64 ((rd_T29 l0 x3_1).f0.f8)) := (blk_cell BK151.out 8).trans rfl
                        have hfz34_0 := blk_frozen BK151.out 0
                        have hfz34_1 := blk_frozen BK151.out 1
                        have hfz34_2 := blk_frozen BK151.out 2
                        have hfz34_3 := blk_frozen BK151.out 3
                        have hfz34_4 := blk_frozen BK151.out 4
                        have hfz34_5 := blk_frozen BK151.out 5
                        have hfz34_6 := blk_frozen BK151.out 6
                        have hfz34_7 := blk_frozen BK151.out 7
                        have hfz34_8 := blk_frozen BK151.out 8
                        go_wp2_with (first | ((with_reducible refine gate_dst (N := 61) rfl ?_); refine Kd.R_lit (Kd.int .u8) _ 5 ?hg (N := 61) ?hd (xs := ([((rd_T29 l0 x3_1).f0.f3) % 256] : List Int)) (inner := [.int .u8 (((rd_T29 l0 x3_1).f0.f3) % 256)]) (ok := fun _ => True) (okp := fun _ => True) ?hr ?hp (fun _ hk => hk) trivial (Below.refl _ _) (Nat.le_refl _) (by simp) ?_; (case hd => rfl); (case hg => rfl); (case hr => first | (go_simp; done) | (go_simp; rfl)); (case hp => exact (Reps.one (show Kd.M (Kd.int .u8) _ _ _ (((rd_T29 l0 x3_1).f0.f3) % 256) [.int .u8 (((rd_T29 l0 x3_1).f0.f3) % 256)] from rfl) (Reps.none _ _))); intro v166 w35 ho36 hb hg_ hnew_; clear hg_ hnew_; (first | rw [← Ny165.out] at ho36 | (simp only [Int.reduceToNat] at ho36; rw [← Ny165.out] at ho36)); have n0_ := Aside0.mk (Kd.R_elder' (by (with_reducible repeat (first | apply Kd.R_alloc | apply Kd.R_drewN | apply Kd.R_drew)); exact (Kd.R_mono (Kd.R_far (p := ⟨gb164, 3, none⟩) (Kd.R_far (p := ⟨gb164, 2, none⟩) (Kd.R_far (p := ⟨gb164, 1, none⟩) (Kd.R_far (p := ⟨gb164, 0, none⟩) (Kd.R_types HO156.out BK164.out (by decide)) (fun _ hk => hk.2) (.int .i64 0)) (fun _ hk => hk.2) (.int .i64 0)) (fun _ hk => hk.2) (.slice none 0 0)) (fun _ hk => hk.2) (.int .i64 0)) (fun _ h_ => h_.1))) (Kd.R_base ho36) hb); have n1_ := Aside0.mk (Kd.R_lower (Kd.R_new' ho36 (Kd.R_lt (by (with_reducible repeat (first | apply Kd.R_alloc | apply Kd.R_drewN | apply Kd.R_drew)); exact (Kd.R_mono (Kd.R_far (p := ⟨gb164, 3, none⟩) (Kd.R_far (p := ⟨gb164, 2, none⟩) (Kd.R_far (p := ⟨gb164, 1, none⟩) (Kd.R_far (p := ⟨gb164, 0, none⟩) (Kd.R_types HO156.out BK164.out (by decide)) (fun _ hk => hk.2) (.int .i64 0)) (fun _ hk => hk.2) (.int .i64 0)) (fun _ hk => hk.2) (.slice none 0 0)) (fun _ hk => hk.2) (.int .i64 0)) (fun _ h_ => h_.1))))) (below_size (by repeat (first | (with_reducible first | exact HB.out | apply below_alloc | apply pw_below_drewN | apply below_drew1 | refine below_set ?_ GE151.out | refine below_set ?_ GE160.out | refine below_set ?_ GE164.out) | exact HB.out)))); have n2_ := Aside0.mk (blk_below (g := gb151) (o := .cells #[.int .i64 ((rd_T29 l0 x3_1).f0.f0), .int .i64 ((rd_T29 l0 x3_1).f0.f1), .bool ((rd_T29 l0 x3_1).f0.f2), .int .i64 ((rd_T29 l0 x3_1).f0.f3), .int .i64 ((rd_T29 l0 x3_1).f0.f4), .int .i64 ((rd_T29 l0 x3_1).f0.f5), .bool ((rd_T29 l0 x3_1).f0.f6), .int .i64 ((rd_T29 l0 x3_1).f0.f7), .int .i64 ((rd_T29 l0 x3_1).f0.f8)] 24 (0, 0)) (by (with_reducible repeat (first | refine blk_drewN ?_ _ | refine blk_drew ?_ | refine blk_alloc ?_ _)); refine blk_far ?_ NB151_164.out _; (with_reducible repeat (first | refine blk_drewN ?_ _ | refine blk_drew ?_ | refine blk_alloc ?_ _)); refine blk_far ?_ NB151_164.out _; (with_reducible repeat (first | refine blk_drewN ?_ _ | refine blk_drew ?_ | refine blk_alloc ?_ _)); refine blk_far ?_ NB151_164.out _; (with_reducible repeat (first | refine blk_drewN ?_ _ | refine blk_drew ?_ | refine blk_alloc ?_ _)); refine blk_far ?_ NB151_164.out _; (with_reducible repeat (first | refine blk_drewN ?_ _ | refine blk_drew ?_ | refine blk_alloc ?_ _)); exact BK151.out) hb); have n3_ := Aside0.mk (blk_below (g := gb160) (o := .cells #[.int .i64 t152, .int .i64 t153, .slice Ao17 t154.length co17, .int .i64 t157] 31 (0, 0)) (by (with_reducible repeat (first | refine blk_drewN ?_ _ | refine blk_drew ?_ | refine blk_alloc ?_ _)); refine blk_far ?_ NB160_164.out _; (with_reducible repeat (first | refine blk_drewN ?_ _ | refine blk_drew ?_ | refine blk_alloc ?_ _)); refine blk_far ?_ NB160_164.out _; (with_reducible repeat (first | refine blk_drewN ?_ _ | refine blk_drew ?_ | refine blk_alloc ?_ _)); refine blk_far ?_ NB160_164.out _; (with_reducible repeat (first | refine blk_drewN ?_ _ | refine blk_drew ?_ | refine blk_alloc ?_ _)); refine blk_far ?_ NB160_164.out _; (with_reducible repeat (first | refine blk_drewN ?_ _ | refine blk_drew ?_ | refine blk_alloc ?_ _)); exact BK160.out) hb); have n4_ := Aside0.mk (blk_below (g := gb164) (o := .cells #[.int .i64 0, .int .i64 0, .slice none 0 0, .int .i64 0] 31 (0, 0)) (by (with_reducible repeat (first | refine blk_drewN ?_ _ | refine blk_drew ?_ | refine blk_alloc ?_ _)); refine blk_put (cs := #[.int .i64 0, .int .i64 0, .slice none 0 0, .int .i64 0]) ?_ 3 _ rfl; (with_reducible repeat (first | refine blk_drewN ?_ _ | refine blk_drew ?_ | refine blk_alloc ?_ _)); refine blk_put (cs := #[.int .i64 0, .int .i64 0, .slice none 0 0, .int .i64 0]) ?_ 2 _ rfl; (with_reducible repeat (first | refine blk_drewN ?_ _ | refine blk_drew ?_ | refine blk_alloc ?_ _)); refine blk_put (cs := #[.int .i64 0, .int .i64 0, .slice none 0 0, .int .i64 0]) ?_ 1 _ rfl; (with_reducible repeat (first | refine blk_drewN ?_ _ | refine blk_drew ?_ | refine blk_alloc ?_ _)); refine blk_put (cs := #[.int .i64 0, .int .i64 0, .slice none 0 0, .int .i64 0]) ?_ 0 _ rfl; (with_reducible repeat (first | refine blk_drewN ?_ _ | refine blk_drew ?_ | refine blk_alloc ?_ _)); exact BK164.out) hb); have n5_ := Aside0.mk (below_step (by repeat (first | (with_reducible first | exact HB.out | apply below_alloc | apply pw_below_drewN | apply below_drew1 | refine below_set ?_ GE151.out | refine below_set ?_ GE160.out | refine below_set ?_ GE164.out) | exact HB.out)) hb); clear HO156; clear BK151; clear BK160; clear BK164; clear HB; have HO156 := n0_; have HO167 := n1_; have BK151 := n2_; have BK160 := n3_; have BK164 := n4_; have HB := n5_; clear n0_ n1_ n2_ n3_ n4_ n5_; clear hb ho36; obtain ⟨Ao37, co37, eo37⟩ := Kd.R_slice HO167.out; subst eo37; have hnb38 := NB164_160.out; have hnc38 := NB160_164.out; have hcz39_0 : w35.cell? ⟨gb164, 0, none⟩ = some (.int .i64 0) := (blk_cell BK164.out 0).trans rfl; have hcz39_1 : w35.cell? ⟨gb164, 1, none⟩ = some (.int .i64 0) := (blk_cell BK164.out 1).trans rfl; have hcz39_2 : w35.cell? ⟨gb164, 2, none⟩ = some (.slice none 0 0) := (blk_cell BK164.out 2).trans rfl; have hcz39_3 : w35.cell? ⟨gb164, 3, none⟩ = some (.int .i64 0) := (blk_cell BK164.out 3).trans rfl; have hfz39_0 := blk_frozen BK164.out 0; have hfz39_1 := blk_frozen BK164.out 1; have hfz39_2 := blk_frozen BK164.out 2; have hfz39_3 := blk_frozen BK164.out 3))
                        go_meet
                        case rel => exact ⟨_, ((rd_T29 l0 x3_1).f0.f0), (2), (y165), (0), (.slice Ao37 y165.length co37), H', ⟨by have := HK1.out; have := HJ1.out; first | omega | exact Nat.le_refl _⟩, ⟨by (with_reducible repeat (first | apply Kd.R_alloc | apply Kd.R_drewN | apply Kd.R_drew)); exact Kd.R_mono (Kd.R_far (p := ⟨gb164, 3, none⟩) (Kd.R_far (p := ⟨gb164, 2, none⟩) (Kd.R_far (p := ⟨gb164, 1, none⟩) (Kd.R_far (p := ⟨gb164, 0, none⟩) (Kd.R_types HO156.out BK164.out (by decide)) (fun _ hk => hk.2) (.int .i64 ((rd_T29 l0 x3_1).f0.f0))) (fun _ hk => hk.2) (.int .i64 2)) (fun _ hk => hk.2) (.slice Ao37 y165.length co37)) (fun _ hk => hk.2) (.int .i64 0)) (fun _ hk => hk.1.2)⟩, ⟨by (with_reducible repeat (first | apply Kd.R_alloc | apply Kd.R_drewN | apply Kd.R_drew)); exact Kd.R_mono (Kd.R_far (p := ⟨gb164, 3, none⟩) (Kd.R_far (p := ⟨gb164, 2, none⟩) (Kd.R_far (p := ⟨gb164, 1, none⟩) (Kd.R_far (p := ⟨gb164, 0, none⟩) (Kd.R_types HO167.out BK164.out (by decide)) (fun _ hk => hk.2) (.int .i64 ((rd_T29 l0 x3_1).f0.f0))) (fun _ hk => hk.2) (.int .i64 2)) (fun _ hk => hk.2) (.slice Ao37 y165.length co37)) (fun _ hk => hk.2) (.int .i64 0)) (fun _ hk => hk.1.2)⟩, ⟨by (with_reducible repeat (first | refine blk_drewN ?_ _ | refine blk_drew ?_ | refine blk_alloc ?_ _)); refine blk_far ?_ NB151_164.out _; (with_reducible repeat (first | refine blk_drewN ?_ _ | refine blk_drew ?_ | refine blk_alloc ?_ _)); refine blk_far ?_ NB151_164.out _; (with_reducible repeat (first | refine blk_drewN ?_ _ | refine blk_drew ?_ | refine blk_alloc ?_ _)); refine blk_far ?_ NB151_164.out _; (with_reducible repeat (first | refine blk_drewN ?_ _ | refine blk_drew ?_ | refine blk_alloc ?_ _)); refine blk_far ?_ NB151_164.out _; (with_reducible repeat (first | refine blk_drewN ?_ _ | refine blk_drew ?_ | refine blk_alloc ?_ _)); exact BK151.out⟩, ⟨by (with_reducible repeat (first | refine blk_drewN ?_ _ | refine blk_drew ?_ | refine blk_alloc ?_ _)); refine blk_far ?_ NB160_164.out _; (with_reducible repeat (first | refine blk_drewN ?_ _ | refine blk_drew ?_ | refine blk_alloc ?_ _)); refine blk_far ?_ NB160_164.out _; (with_reducible repeat (first | refine blk_drewN ?_ _ | refine blk_drew ?_ | refine blk_alloc ?_ _)); refine blk_far ?_ NB160_164.out _; (with_reducible repeat (first | refine blk_drewN ?_ _ | refine blk_drew ?_ | refine blk_alloc ?_ _)); refine blk_far ?_ NB160_164.out _; (with_reducible repeat (first | refine blk_drewN ?_ _ | refine blk_drew ?_ | refine blk_alloc ?_ _)); exact BK160.out⟩, ⟨by (with_reducible repeat (first | refine blk_drewN ?_ _ | refine blk_drew ?_ | refine blk_alloc ?_ _)); refine blk_put (cs := #[.int .i64 ((rd_T29 l0 x3_1).f0.f0), .int .i64 2, .slice Ao37 y165.length co37, .int .i64 0]) ?_ 3 _ rfl; (with_reducible repeat (first | refine blk_drewN ?_ _ | refine blk_drew ?_ | refine blk_alloc ?_ _)); refine blk_put (cs := #[.int .i64 ((rd_T29 l0 x3_1).f0.f0), .int .i64 2, .slice none 0 0, .int .i64 0]) ?_ 2 _ rfl; (with_reducible repeat (first | refine blk_drewN ?_ _ | refine blk_drew ?_ | refine blk_alloc ?_ _)); refine blk_put (cs := #[.int .i64 ((rd_T29 l0 x3_1).f0.f0), .int .i64 0, .slice none 0 0, .int .i64 0]) ?_ 1 _ rfl; (with_reducible repeat (first | refine blk_drewN ?_ _ | refine blk_drew ?_ | refine blk_alloc ?_ _)); refine blk_put (cs := #[.int .i64 0, .int .i64 0, .slice none 0 0, .int .i64 0]) ?_ 0 _ rfl; (with_reducible repeat (first | refine blk_drewN ?_ _ | refine blk_drew ?_ | refine blk_alloc ?_ _)); exact BK164.out⟩, ⟨by repeat (first | (with_reducible first | exact HB.out | apply below_alloc | apply pw_below_drewN | apply below_drew1 | refine below_set ?_ GE151.out | refine below_set ?_ GE160.out | refine below_set ?_ GE164.out) | exact HB.out)⟩⟩
                      · rw [if_neg c31] at H
                        have c31b0 : (((rd_T29 l0 x3_1).f0.f4) == 2) = false := beq_eq_false_iff_ne.mpr c31
                        have c31b1 : (((rd_T29 l0 x3_1).f0.f4) != 2) = true := bne_iff_ne.mpr c31
                        by_cases c40 : ((rd_T29 l0 x3_1).f0.f4) = 3
                        · rw [if_pos c40] at H
                          have c40b0 : (((rd_T29 l0 x3_1).f0.f4) == 3) = true := beq_iff_eq.mpr c40
                          have c40b1 : (((rd_T29 l0 x3_1).f0.f4) != 3) = false := bne_eq_false_iff_eq.mpr c40
                          clear c40
                          obtain ⟨y168, hy168⟩ : ∃ y_ : List Int, y_ = (([1] : List Int)) := ⟨_, rfl⟩
                          replace H : (gimballaw9_DrvNexts.j2 kj1 l0 x3_1 t158 t159 ((rd_T29 l0 x3_1).f0.f0) ((rd_T29 l0 x3_1).f0.f1) ((rd_T29 l0 x3_1).f0.f2) ((rd_T29 l0 x3_1).f0.f3) ((rd_T29 l0 x3_1).f0.f4) ((rd_T29 l0 x3_1).f0.f5) ((rd_T29 l0 x3_1).f0.f6) ((rd_T29 l0 x3_1).f0.f7) ((rd_T29 l0 x3_1).f0.f8) t152 t153 t154 t157 ((rd_T29 l0 x3_1).f0.f0) 1 y168 0) = some r := by first | (rw [hy168]; with_reducible exact H) | (have H2_ := (Option.bind_some _ _).symm.trans H; rw [hy168]; with_reducible exact H2_) | (have H2_ := (Option.bind_some _ _).symm.trans H; with_reducible exact H2_) | with_reducible exact H | (rw [hy168]; exact H) | exact H
                          have Ny168 := Aside0.mk hy168
                          clear hy168
                          have H' := Aside0.mk H
                          clear H
                          have hnb41 := NB151_160.out
                          have hnc41 := NB160_151.out
                          have hnb42 := NB151_164.out
                          have hnc42 := NB164_151.out
                          have hcz43_0 : w20.cell? ⟨gb151, 0, none⟩ = some (.int .i64 ((rd_T29 l0 x3_1).f0.f0)) := (blk_cell BK151.out 0).trans rfl
                          have hcz43_1 : w20.cell? ⟨gb151, 1, none⟩ = some (.int .i64 ((rd_T29 l0 x3_1).f0.f1)) := (blk_cell BK151.out 1).trans rfl
                          have hcz43_2 : w20.cell? ⟨gb151, 2, none⟩ = some (.bool ((rd_T29 l0 x3_1).f0.f2)) := (blk_cell BK151.out 2).trans rfl
                          have hcz43_3 : w20.cell? ⟨gb151, 3, none⟩ = some (.int .i64 ((rd_T29 l0 x3_1).f0.f3)) := (blk_cell BK151.out 3).trans rfl
                          have hcz43_4 : w20.cell? ⟨gb151, 4, none⟩ = some (.int .i64 ((rd_T29 l0 x3_1).f0.f4)) := (blk_cell BK151.out 4).trans rfl
                          have hcz43_5 : w20.cell? ⟨gb151, 5, none⟩ = some (.int .i64 ((rd_T29 l0 x3_1).f0.f5)) := (blk_cell BK151.out 5).trans rfl
                          have hcz43_6 : w20.cell? ⟨gb151, 6, none⟩ = some (.bool ((rd_T29 l0 x3_1).f0.f6)) := (blk_cell BK151.out 6).trans rfl
                          have hcz43_7 : w20.cell? ⟨gb151, 7, none⟩ = some (.int .i64 ((rd_T29 l0 x3_1).f0.f7)) := (blk_cell BK151.out 7).trans rfl
                          have hcz43_8 : w20.cell? ⟨gb151, 8, none⟩ = some (.int .i64 ((rd_T29 l0 x3_1).f0.f8)) := (blk_cell BK151.out 8).trans rfl
                          have hfz43_0 := blk_frozen BK151.out 0
                          have hfz43_1 := blk_frozen BK151.out 1
                          have hfz43_2 := blk_frozen BK151.out 2
                          have hfz43_3 := blk_frozen BK151.out 3
                          have hfz43_4 := blk_frozen BK151.out 4
                          have hfz43_5 := blk_frozen BK151.out 5
                          have hfz43_6 := blk_frozen BK151.out 6
                          have hfz43_7 := blk_frozen BK151.out 7
                          have hfz43_8 := blk_frozen BK151.out 8
                          go_wp2_with (first | ((with_reducible refine gate_dst (N := 67) rfl ?_); refine Kd.R_lit (Kd.int .u8) _ 5 ?hg (N := 67) ?hd (xs := ([1] : List Int)) (inner := [.int .u8 1]) (ok := fun _ => True) (okp := fun _ => True) ?hr ?hp (fun _ hk => hk) trivial (Below.refl _ _) (Nat.le_refl _) (by simp) ?_; (case hd => rfl); (case hg => rfl); (case hr => first | (go_simp; done) | (go_simp; rfl)); (case hp => exact (Reps.one (show Kd.M (Kd.int .u8) _ _ _ 1 [.int .u8 1] from rfl) (Reps.none _ _))); intro v169 w44 ho45 hb hg_ hnew_; clear hg_ hnew_; (first | rw [← Ny168.out] at ho45 | (simp only [Int.reduceToNat] at ho45; rw [← Ny168.out] at ho45)); have n0_ := Aside0.mk (Kd.R_elder' (by (with_reducible repeat (first | apply Kd.R_alloc | apply Kd.R_drewN | apply Kd.R_drew)); exact (Kd.R_mono (Kd.R_far (p := ⟨gb164, 3, none⟩) (Kd.R_far (p := ⟨gb164, 2, none⟩) (Kd.R_far (p := ⟨gb164, 1, none⟩) (Kd.R_far (p := ⟨gb164, 0, none⟩) (Kd.R_types HO156.out BK164.out (by decide)) (fun _ hk => hk.2) (.int .i64 0)) (fun _ hk => hk.2) (.int .i64 0)) (fun _ hk => hk.2) (.slice none 0 0)) (fun _ hk => hk.2) (.int .i64 0)) (fun _ h_ => h_.1))) (Kd.R_base ho45) hb); have n1_ := Aside0.mk (Kd.R_lower (Kd.R_new' ho45 (Kd.R_lt (by (with_reducible repeat (first | apply Kd.R_alloc | apply Kd.R_drewN | apply Kd.R_drew)); exact (Kd.R_mono (Kd.R_far (p := ⟨gb164, 3, none⟩) (Kd.R_far (p := ⟨gb164, 2, none⟩) (Kd.R_far (p := ⟨gb164, 1, none⟩) (Kd.R_far (p := ⟨gb164, 0, none⟩) (Kd.R_types HO156.out BK164.out (by decide)) (fun _ hk => hk.2) (.int .i64 0)) (fun _ hk => hk.2) (.int .i64 0)) (fun _ hk => hk.2) (.slice none 0 0)) (fun _ hk => hk.2) (.int .i64 0)) (fun _ h_ => h_.1))))) (below_size (by repeat (first | (with_reducible first | exact HB.out | apply below_alloc | apply pw_below_drewN | apply below_drew1 | refine below_set ?_ GE151.out | refine below_set ?_ GE160.out | refine below_set ?_ GE164.out) | exact HB.out)))); have n2_ := Aside0.mk (blk_below (g := gb151) (o := .cells #[.int .i64 ((rd_T29 l0 x3_1).f0.f0), .int .i64 ((rd_T29 l0 x3_1).f0.f1), .bool ((rd_T29 l0 x3_1).f0.f2), .int .i64 ((rd_T29 l0 x3_1).f0.f3), .int .i64 ((rd_T29 l0 x3_1).f0.f4), .int .i64 ((rd_T29 l0 x3_1).f0.f5), .bool ((rd_T29 l0 x3_1).f0.f6), .int .i64 ((rd_T29 l0 x3_1).f0.f7), .int .i64 ((rd_T29 l0 x3_1).f0.f8)] 24 (0, 0)) (by (with_reducible repeat (first | refine blk_drewN ?_ _ | refine blk_drew ?_ | refine blk_alloc ?_ _)); refine blk_far ?_ NB151_164.out _; (with_reducible repeat (first | refine blk_drewN ?_ _ | refine blk_drew ?_ | refine blk_alloc ?_ _)); refine blk_far ?_ NB151_164.out _; (with_reducible repeat (first | refine blk_drewN ?_ _ | refine blk_drew ?_ | refine blk_alloc ?_ _)); refine blk_far ?_ NB151_164.out _; (with_reducible repeat (first | refine blk_drewN ?_ _ | refine blk_drew ?_ | refine blk_alloc ?_ _)); refine blk_far ?_ NB151_164.out _; (with_reducible repeat (first | refine blk_drewN ?_ _ | refine blk_drew ?_ | refine blk_alloc ?_ _)); exact BK151.out) hb); have n3_ := Aside0.mk (blk_below (g := gb160) (o := .cells #[.int .i64 t152, .int .i64 t153, .slice Ao17 t154.length co17, .int .i64 t157] 31 (0, 0)) (by (with_reducible repeat (first | refine blk_drewN ?_ _ | refine blk_drew ?_ | refine blk_alloc ?_ _)); refine blk_far ?_ NB160_164.out _; (with_reducible repeat (first | refine blk_drewN ?_ _ | refine blk_drew ?_ | refine blk_alloc ?_ _)); refine blk_far ?_ NB160_164.out _; (with_reducible repeat (first | refine blk_drewN ?_ _ | refine blk_drew ?_ | refine blk_alloc ?_ _)); refine blk_far ?_ NB160_164.out _; (with_reducible repeat (first | refine blk_drewN ?_ _ | refine blk_drew ?_ | refine blk_alloc ?_ _)); refine blk_far ?_ NB160_164.out _; (with_reducible repeat (first | refine blk_drewN ?_ _ | refine blk_drew ?_ | refine blk_alloc ?_ _)); exact BK160.out) hb); have n4_ := Aside0.mk (blk_below (g := gb164) (o := .cells #[.int .i64 0, .int .i64 0, .slice none 0 0, .int .i64 0] 31 (0, 0)) (by (with_reducible repeat (first | refine blk_drewN ?_ _ | refine blk_drew ?_ | refine blk_alloc ?_ _)); refine blk_put (cs := #[.int .i64 0, .int .i64 0, .slice none 0 0, .int .i64 0]) ?_ 3 _ rfl; (with_reducible repeat (first | refine blk_drewN ?_ _ | refine blk_drew ?_ | refine blk_alloc ?_ _)); refine blk_put (cs := #[.int .i64 0, .int .i64 0, .slice none 0 0, .int .i64 0]) ?_ 2 _ rfl; (with_reducible repeat (first | refine blk_drewN ?_ _ | refine blk_drew ?_ | refine blk_alloc ?_ _)); refine blk_put (cs := #[.int .i64 0, .int .i64 0, .slice none 0 0, .int .i64 0]) ?_ 1 _ rfl; (with_reducible repeat (first | refine blk_drewN ?_ _ | refine blk_drew ?_ | refine blk_alloc ?_ _)); refine blk_put (cs := #[.int .i64 0, .int .i64 0, .slice none 0 0, .int .i64 0]) ?_ 0 _ rfl; (with_reducible repeat (first | refine blk_drewN ?_ _ | refine blk_drew ?_ | refine blk_alloc ?_ _)); exact BK164.out) hb); have n5_ := Aside0.mk (below_step (by repeat (first | (with_reducible first | exact HB.out | apply below_alloc | apply pw_below_drewN | apply below_drew1 | refine below_set ?_ GE151.out | refine below_set ?_ GE160.out | refine below_set ?_ GE164.out) | exact HB.out)) hb); clear HO156; clear BK151; clear BK160; clear BK164; clear HB; have HO156 := n0_; have HO170 := n1_; have BK151 := n2_; have BK160 := n3_; have BK164 := n4_; have HB := n5_; clear n0_ n1_ n2_ n3_ n4_ n5_; clear hb ho45; obtain ⟨Ao46, co46, eo46⟩ := Kd.R_slice HO170.out; subst eo46; have hnb47 := NB164_160.out; have hnc47 := NB160_164.out; have hcz48_0 : w44.cell? ⟨gb164, 0, none⟩ = some (.int .i64 0) := (blk_cell BK164.out 0).trans rfl; have hcz48_1 : w44.cell? ⟨gb164, 1, none⟩ = some (.int .i64 0) := (blk_cell BK164.out 1).trans rfl; have hcz48_2 : w44.cell? ⟨gb164, 2, none⟩ = some (.slice none 0 0) := (blk_cell BK164.out 2).trans rfl; have hcz48_3 : w44.cell? ⟨gb164, 3, none⟩ = some (.int .i64 0) := (blk_cell BK164.out 3).trans rfl; have hfz48_0 := blk_frozen BK164.out 0; have hfz48_1 := blk_frozen BK164.out 1; have hfz48_2 := blk_frozen BK164.out 2; have hfz48_3 := blk_frozen BK164.out 3))
                          go_meet
                          case rel => exact ⟨_, ((rd_T29 l0 x3_1).f0.f0), (1), (y168), (0), (.slice Ao46 y168.length co46), H', ⟨by have := HK1.out; have := HJ1.out; first | omega | exact Nat.le_refl _⟩, ⟨by (with_reducible repeat (first | apply Kd.R_alloc | apply Kd.R_drewN | apply Kd.R_drew)); exact Kd.R_mono (Kd.R_far (p := ⟨gb164, 3, none⟩) (Kd.R_far (p := ⟨gb164, 2, none⟩) (Kd.R_far (p := ⟨gb164, 1, none⟩) (Kd.R_far (p := ⟨gb164, 0, none⟩) (Kd.R_types HO156.out BK164.out (by decide)) (fun _ hk => hk.2) (.int .i64 ((rd_T29 l0 x3_1).f0.f0))) (fun _ hk => hk.2) (.int .i64 1)) (fun _ hk => hk.2) (.slice Ao46 y168.length co46)) (fun _ hk => hk.2) (.int .i64 0)) (fun _ hk => hk.1.2)⟩, ⟨by (with_reducible repeat (first | apply Kd.R_alloc | apply Kd.R_drewN | apply Kd.R_drew)); exact Kd.R_mono (Kd.R_far (p := ⟨gb164, 3, none⟩) (Kd.R_far (p := ⟨gb164, 2, none⟩) (Kd.R_far (p := ⟨gb164, 1, none⟩) (Kd.R_far (p := ⟨gb164, 0, none⟩) (Kd.R_types HO170.out BK164.out (by decide)) (fun _ hk => hk.2) (.int .i64 ((rd_T29 l0 x3_1).f0.f0))) (fun _ hk => hk.2) (.int .i64 1)) (fun _ hk => hk.2) (.slice Ao46 y168.length co46)) (fun _ hk => hk.2) (.int .i64 0)) (fun _ hk => hk.1.2)⟩, ⟨by (with_reducible repeat (first | refine blk_drewN ?_ _ | refine blk_drew ?_ | refine blk_alloc ?_ _)); refine blk_far ?_ NB151_164.out _; (with_reducible repeat (first | refine blk_drewN ?_ _ | refine blk_drew ?_ | refine blk_alloc ?_ _)); refine blk_far ?_ NB151_164.out _; (with_reducible repeat (first | refine blk_drewN ?_ _ | refine blk_drew ?_ | refine blk_alloc ?_ _)); refine blk_far ?_ NB151_164.out _; (with_reducible repeat (first | refine blk_drewN ?_ _ | refine blk_drew ?_ | refine blk_alloc ?_ _)); refine blk_far ?_ NB151_164.out _; (with_reducible repeat (first | refine blk_drewN ?_ _ | refine blk_drew ?_ | refine blk_alloc ?_ _)); exact BK151.out⟩, ⟨by (with_reducible repeat (first | refine blk_drewN ?_ _ | refine blk_drew ?_ | refine blk_alloc ?_ _)); refine blk_far ?_ NB160_164.out _; (with_reducible repeat (first | refine blk_drewN ?_ _ | refine blk_drew ?_ | refine blk_alloc ?_ _)); refine blk_far ?_ NB160_164.out _; (with_reducible repeat (first | refine blk_drewN ?_ _ | refine blk_drew ?_ | refine blk_alloc ?_ _)); refine blk_far ?_ NB160_164.out _; (with_reducible repeat (first | refine blk_drewN ?_ _ | refine blk_drew ?_ | refine blk_alloc ?_ _)); refine blk_far ?_ NB160_164.out _; (with_reducible repeat (first | refine blk_drewN ?_ _ | refine blk_drew ?_ | refine blk_alloc ?_ _)); exact BK160.out⟩, ⟨by (with_reducible repeat (first | refine blk_drewN ?_ _ | refine blk_drew ?_ | refine blk_alloc ?_ _)); refine blk_put (cs := #[.int .i64 ((rd_T29 l0 x3_1).f0.f0), .int .i64 1, .slice Ao46 y168.length co46, .int .i64 0]) ?_ 3 _ rfl; (with_reducible repeat (first | refine blk_drewN ?_ _ | refine blk_drew ?_ | refine blk_alloc ?_ _)); refine blk_put (cs := #[.int .i64 ((rd_T29 l0 x3_1).f0.f0), .int .i64 1, .slice none 0 0, .int .i64 0]) ?_ 2 _ rfl; (with_reducible repeat (first | refine blk_drewN ?_ _ | refine blk_drew ?_ | refine blk_alloc ?_ _)); refine blk_put (cs := #[.int .i64 ((rd_T29 l0 x3_1).f0.f0), .int .i64 0, .slice none 0 0, .int .i64 0]) ?_ 1 _ rfl; (with_reducible repeat (first | refine blk_drewN ?_ _ | refine blk_drew ?_ | refine blk_alloc ?_ _)); refine blk_put (cs := #[.int .i64 0, .int .i64 0, .slice none 0 0, .int .i64 0]) ?_ 0 _ rfl; (with_reducible repeat (first | refine blk_drewN ?_ _ | refine blk_drew ?_ | refine blk_alloc ?_ _)); exact BK164.out⟩, ⟨by repeat (first | (with_reducible first | exact HB.out | apply below_alloc | apply pw_below_drewN | apply below_drew1 | refine below_set ?_ GE151.out | refine below_set ?_ GE160.out | refine below_set ?_ GE164.out) | exact HB.out)⟩⟩
                        · rw [if_neg c40] at H
                          have c40b0 : (((rd_T29 l0 x3_1).f0.f4) == 3) = false := beq_eq_false_iff_ne.mpr c40
                          have c40b1 : (((rd_T29 l0 x3_1).f0.f4) != 3) = true := bne_iff_ne.mpr c40
                          by_cases c49 : ((rd_T29 l0 x3_1).f0.f4) = 4
                          · rw [if_pos c49] at H
                            have c49b0 : (((rd_T29 l0 x3_1).f0.f4) == 4) = true := beq_iff_eq.mpr c49
                            have c49b1 : (((rd_T29 l0 x3_1).f0.f4) != 4) = false := bne_eq_false_iff_eq.mpr c49
                            clear c49
                            have H' := Aside0.mk H
                            clear H
                            have hnb50 := NB151_160.out
                            have hnc50 := NB160_151.out
                            have hnb51 := NB151_164.out
                            have hnc51 := NB164_151.out
                            have hcz52_0 : w20.cell? ⟨gb151, 0, none⟩ = some (.int .i64 ((rd_T29 l0 x3_1).f0.f0)) := (blk_cell BK151.out 0).trans rfl
                            have hcz52_1 : w20.cell? ⟨gb151, 1, none⟩ = some (.int .i64 ((rd_T29 l0 x3_1).f0.f1)) := (blk_cell BK151.out 1).trans rfl
                            have hcz52_2 : w20.cell? ⟨gb151, 2, none⟩ = some (.bool ((rd_T29 l0 x3_1).f0.f2)) := (blk_cell BK151.out 2).trans rfl
                            have hcz52_3 : w20.cell? ⟨gb151, 3, none⟩ = some (.int .i64 ((rd_T29 l0 x3_1).f0.f3)) := (blk_cell BK151.out 3).trans rfl
                            have hcz52_4 : w20.cell? ⟨gb151, 4, none⟩ = some (.int .i64 ((rd_T29 l0 x3_1).f0.f4)) := (blk_cell BK151.out 4).trans rfl
                            have hcz52_5 : w20.cell? ⟨gb151, 5, none⟩ = some (.int .i64 ((rd_T29 l0 x3_1).f0.f5)) := (blk_cell BK151.out 5).trans rfl
                            have hcz52_6 : w20.cell? ⟨gb151, 6, none⟩ = some (.bool ((rd_T29 l0 x3_1).f0.f6)) := (blk_cell BK151.out 6).trans rfl
                            have hcz52_7 : w20.cell? ⟨gb151, 7, none⟩ = some (.int .i64 ((rd_T29 l0 x3_1).f0.f7)) := (blk_cell BK151.out 7).trans rfl
                            have hcz52_8 : w20.cell? ⟨gb151, 8, none⟩ = some (.int .i64 ((rd_T29 l0 x3_1).f0.f8)) := (blk_cell BK151.out 8).trans rfl
                            have hfz52_0 := blk_frozen BK151.out 0
                            have hfz52_1 := blk_frozen BK151.out 1
                            have hfz52_2 := blk_frozen BK151.out 2
                            have hfz52_3 := blk_frozen BK151.out 3
                            have hfz52_4 := blk_frozen BK151.out 4
                            have hfz52_5 := blk_frozen BK151.out 5
                            have hfz52_6 := blk_frozen BK151.out 6
                            have hfz52_7 := blk_frozen BK151.out 7
                            have hfz52_8 := blk_frozen BK151.out 8
                            have hnb53 := NB164_160.out
                            have hnc53 := NB160_164.out
                            have hcz54_0 : w20.cell? ⟨gb164, 0, none⟩ = some (.int .i64 0) := (blk_cell BK164.out 0).trans rfl
                            have hcz54_1 : w20.cell? ⟨gb164, 1, none⟩ = some (.int .i64 0) := (blk_cell BK164.out 1).trans rfl
                            have hcz54_2 : w20.cell? ⟨gb164, 2, none⟩ = some (.slice none 0 0) := (blk_cell BK164.out 2).trans rfl
                            have hcz54_3 : w20.cell? ⟨gb164, 3, none⟩ = some (.int .i64 0) := (blk_cell BK164.out 3).trans rfl
                            have hfz54_0 := blk_frozen BK164.out 0
                            have hfz54_1 := blk_frozen BK164.out 1
                            have hfz54_2 := blk_frozen BK164.out 2
                            have hfz54_3 := blk_frozen BK164.out 3
                            go_wp2
                            go_meet
                            case rel => exact ⟨_, ((rd_T29 l0 x3_1).f0.f0), (3), (([] : List Int)), (1), (.slice none 0 0), H', ⟨by have := HK1.out; have := HJ1.out; first | omega | exact Nat.le_refl _⟩, ⟨by (with_reducible repeat (first | apply Kd.R_alloc | apply Kd.R_drewN | apply Kd.R_drew)); exact Kd.R_mono (Kd.R_far (p := ⟨gb164, 3, none⟩) (Kd.R_far (p := ⟨gb164, 2, none⟩) (Kd.R_far (p := ⟨gb164, 1, none⟩) (Kd.R_far (p := ⟨gb164, 0, none⟩) (Kd.R_far (p := ⟨gb164, 3, none⟩) (Kd.R_far (p := ⟨gb164, 2, none⟩) (Kd.R_far (p := ⟨gb164, 1, none⟩) (Kd.R_far (p := ⟨gb164, 0, none⟩) (Kd.R_types HO156.out BK164.out (by decide)) (fun _ hk => hk.2) (.int .i64 0)) (fun _ hk => hk.2) (.int .i64 0)) (fun _ hk => hk.2) (.slice none 0 0)) (fun _ hk => hk.2) (.int .i64 0)) (fun _ hk => hk.2) (.int .i64 ((rd_T29 l0 x3_1).f0.f0))) (fun _ hk => hk.2) (.int .i64 3)) (fun _ hk => hk.2) (.slice none 0 0)) (fun _ hk => hk.2) (.int .i64 1)) (fun _ hk => (by simp [Value.ownBlock]))⟩, ⟨by first | exact Kd.R_nil _ _ _ _ _ | exact Kd.N_nil _ _ _ _ _ | exact Kd.V_nil _ _ _ _ _ | exact Kd.Q_nil _ _ _ _ _ | exact Kd.S_nil _ _ _ _ _⟩, ⟨by (with_reducible repeat (first | refine blk_drewN ?_ _ | refine blk_drew ?_ | refine blk_alloc ?_ _)); refine blk_far ?_ NB151_164.out _; (with_reducible repeat (first | refine blk_drewN ?_ _ | refine blk_drew ?_ | refine blk_alloc ?_ _)); refine blk_far ?_ NB151_164.out _; (with_reducible repeat (first | refine blk_drewN ?_ _ | refine blk_drew ?_ | refine blk_alloc ?_ _)); refine blk_far ?_ NB151_164.out _; (with_reducible repeat (first | refine blk_drewN ?_ _ | refine blk_drew ?_ | refine blk_alloc ?_ _)); refine blk_far ?_ NB151_164.out _; (with_reducible repeat (first | refine blk_drewN ?_ _ | refine blk_drew ?_ | refine blk_alloc ?_ _)); refine blk_far ?_ NB151_164.out _; (with_reducible repeat (first | refine blk_drewN ?_ _ | refine blk_drew ?_ | refine blk_alloc ?_ _)); refine blk_far ?_ NB151_164.out _; (with_reducible repeat (first | refine blk_drewN ?_ _ | refine blk_drew ?_ | refine blk_alloc ?_ _)); refine blk_far ?_ NB151_164.out _; (with_reducible repeat (first | refine blk_drewN ?_ _ | refine blk_drew ?_ | refine blk_alloc ?_ _)); refine blk_far ?_ NB151_164.out _; (with_reducible repeat (first | refine blk_drewN ?_ _ | refine blk_drew ?_ | refine blk_alloc ?_ _)); exact BK151.out⟩, ⟨by (with_reducible repeat (first | refine blk_drewN ?_ _ | refine blk_drew ?_ | refine blk_alloc ?_ _)); refine blk_far ?_ NB160_164.out _; (with_reducible repeat (first | refine blk_drewN ?_ _ | refine blk_drew ?_ | refine blk_alloc ?_ _)); refine blk_far ?_ NB160_164.out _; (with_reducible repeat (first | refine blk_drewN ?_ _ | refine blk_drew ?_ | refine blk_alloc ?_ _)); refine blk_far ?_ NB160_164.out _; (with_reducible repeat (first | refine blk_drewN ?_ _ | refine blk_drew ?_ | refine blk_alloc ?_ _)); refine blk_far ?_ NB160_164.out _; (with_reducible repeat (first | refine blk_drewN ?_ _ | refine blk_drew ?_ | refine blk_alloc ?_ _)); refine blk_far ?_ NB160_164.out _; (with_reducible repeat (first | refine blk_drewN ?_ _ | refine blk_drew ?_ | refine blk_alloc ?_ _)); refine blk_far ?_ NB160_164.out _; (with_reducible repeat (first | refine blk_drewN ?_ _ | refine blk_drew ?_ | refine blk_alloc ?_ _)); refine blk_far ?_ NB160_164.out _; (with_reducible repeat (first | refine blk_drewN ?_ _ | refine blk_drew ?_ | refine blk_alloc ?_ _)); refine blk_far ?_ NB160_164.out _; (with_reducible repeat (first | refine blk_drewN ?_ _ | refine blk_drew ?_ | refine blk_alloc ?_ _)); exact BK160.out⟩, ⟨by (with_reducible repeat (first | refine blk_drewN ?_ _ | refine blk_drew ?_ | refine blk_alloc ?_ _)); refine blk_put (cs := #[.int .i64 ((rd_T29 l0 x3_1).f0.f0), .int .i64 3, .slice none 0 0, .int .i64 0]) ?_ 3 _ rfl; (with_reducible repeat (first | refine blk_drewN ?_ _ | refine blk_drew ?_ | refine blk_alloc ?_ _)); refine blk_put (cs := #[.int .i64 ((rd_T29 l0 x3_1).f0.f0), .int .i64 3, .slice none 0 0, .int .i64 0]) ?_ 2 _ rfl; (with_reducible repeat (first | refine blk_drewN ?_ _ | refine blk_drew ?_ | refine blk_alloc ?_ _)); refine blk_put (cs := #[.int .i64 ((rd_T29 l0 x3_1).f0.f0), .int .i64 0, .slice none 0 0, .int .i64 0]) ?_ 1 _ rfl; (with_reducible repeat (first | refine blk_drewN ?_ _ | refine blk_drew ?_ | refine blk_alloc ?_ _)); refine blk_put (cs := #[.int .i64 0, .int .i64 0, .slice none 0 0, .int .i64 0]) ?_ 0 _ rfl; (with_reducible repeat (first | refine blk_drewN ?_ _ | refine blk_drew ?_ | refine blk_alloc ?_ _)); refine blk_put (cs := #[.int .i64 0, .int .i64 0, .slice none 0 0, .int .i64 0]) ?_ 3 _ rfl; (with_reducible repeat (first | refine blk_drewN ?_ _ | refine blk_drew ?_ | refine blk_alloc ?_ _)); refine blk_put (cs := #[.int .i64 0, .int .i64 0, .slice none 0 0, .int .i64 0]) ?_ 2 _ rfl; (with_reducible repeat (first | refine blk_drewN ?_ _ | refine blk_drew ?_ | refine blk_alloc ?_ _)); refine blk_put (cs := #[.int .i64 0, .int .i64 0, .slice none 0 0, .int .i64 0]) ?_ 1 _ rfl; (with_reducible repeat (first | refine blk_drewN ?_ _ | refine blk_drew ?_ | refine blk_alloc ?_ _)); refine blk_put (cs := #[.int .i64 0, .int .i64 0, .slice none 0 0, .int .i64 0]) ?_ 0 _ rfl; (with_reducible repeat (first | refine blk_drewN ?_ _ | refine blk_drew ?_ | refine blk_alloc ?_ _)); exact BK164.out⟩, ⟨by repeat (first | (with_reducible first | exact HB.out | apply below_alloc | apply pw_below_drewN | apply below_drew1 | refine below_set ?_ GE151.out | refine below_set ?_ GE160.out | refine below_set ?_ GE164.out) | exact HB.out)⟩⟩
                          · rw [if_neg c49] at H
                            have c49b0 : (((rd_T29 l0 x3_1).f0.f4) == 4) = false := beq_eq_false_iff_ne.mpr c49
                            have c49b1 : (((rd_T29 l0 x3_1).f0.f4) != 4) = true := bne_iff_ne.mpr c49
                            by_cases c55 : ((rd_T29 l0 x3_1).f0.f4) = 5
                            · rw [if_pos c55] at H
                              have c55b0 : (((rd_T29 l0 x3_1).f0.f4) == 5) = true := beq_iff_eq.mpr c55
                              have c55b1 : (((rd_T29 l0 x3_1).f0.f4) != 5) = false := bne_eq_false_iff_eq.mpr c55
                              clear c55
                              have H' := Aside0.mk H
                              clear H
                              have hnb56 := NB151_160.out
                              have hnc56 := NB160_151.out
                              have hnb57 := NB151_164.out
                              have hnc57 := NB164_151.out
                              have hcz58_0 : w20.cell? ⟨gb151, 0, none⟩ = some (.int .i64 ((rd_T29 l0 x3_1).f0.f0)) := (blk_cell BK151.out 0).trans rfl
                              have hcz58_1 : w20.cell? ⟨gb151, 1, none⟩ = some (.int .i64 ((rd_T29 l0 x3_1).f0.f1)) := (blk_cell BK151.out 1).trans rfl
                              have hcz58_2 : w20.cell? ⟨gb151, 2, none⟩ = some (.bool ((rd_T29 l0 x3_1).f0.f2)) := (blk_cell BK151.out 2).trans rfl
                              have hcz58_3 : w20.cell? ⟨gb151, 3, none⟩ = some (.int .i64 ((rd_T29 l0 x3_1).f0.f3)) := (blk_cell BK151.out 3).trans rfl
                              have hcz58_4 : w20.cell? ⟨gb151, 4, none⟩ = some (.int .i64 ((rd_T29 l0 x3_1).f0.f4)) := (blk_cell BK151.out 4).trans rfl
                              have hcz58_5 : w20.cell? ⟨gb151, 5, none⟩ = some (.int .i64 ((rd_T29 l0 x3_1).f0.f5)) := (blk_cell BK151.out 5).trans rfl
                              have hcz58_6 : w20.cell? ⟨gb151, 6, none⟩ = some (.bool ((rd_T29 l0 x3_1).f0.f6)) := (blk_cell BK151.out 6).trans rfl
                              have hcz58_7 : w20.cell? ⟨gb151, 7, none⟩ = some (.int .i64 ((rd_T29 l0 x3_1).f0.f7)) := (blk_cell BK151.out 7).trans rfl
                              have hcz58_8 : w20.cell? ⟨gb151, 8, none⟩ = some (.int .i64 ((rd_T29 l0 x3_1).f0.f8)) := (blk_cell BK151.out 8).trans rfl
                              have hfz58_0 := blk_frozen BK151.out 0
                              have hfz58_1 := blk_frozen BK151.out 1
                              have hfz58_2 := blk_frozen BK151.out 2
                              have hfz58_3 := blk_frozen BK151.out 3
                              have hfz58_4 := blk_frozen BK151.out 4
                              have hfz58_5 := blk_frozen BK151.out 5
                              have hfz58_6 := blk_frozen BK151.out 6
                              have hfz58_7 := blk_frozen BK151.out 7
                              have hfz58_8 := blk_frozen BK151.out 8
                              have hnb59 := NB164_160.out
                              have hnc59 := NB160_164.out
                              have hcz60_0 : w20.cell? ⟨gb164, 0, none⟩ = some (.int .i64 0) := (blk_cell BK164.out 0).trans rfl
                              have hcz60_1 : w20.cell? ⟨gb164, 1, none⟩ = some (.int .i64 0) := (blk_cell BK164.out 1).trans rfl
                              have hcz60_2 : w20.cell? ⟨gb164, 2, none⟩ = some (.slice none 0 0) := (blk_cell BK164.out 2).trans rfl
                              have hcz60_3 : w20.cell? ⟨gb164, 3, none⟩ = some (.int .i64 0) := (blk_cell BK164.out 3).trans rfl
                              have hfz60_0 := blk_frozen BK164.out 0
                              have hfz60_1 := blk_frozen BK164.out 1
                              have hfz60_2 := blk_frozen BK164.out 2
                              have hfz60_3 := blk_frozen BK164.out 3
                              go_wp2
                              go_meet
                              case rel => exact ⟨_, ((rd_T29 l0 x3_1).f0.f0), (4), (([] : List Int)), (wrap64 (8 * ((rd_T29 l0 x3_1).f0.f7))), (.slice none 0 0), H', ⟨by have := HK1.out; have := HJ1.out; first | omega | exact Nat.le_refl _⟩, ⟨by (with_reducible repeat (first | apply Kd.R_alloc | apply Kd.R_drewN | apply Kd.R_drew)); exact Kd.R_mono (Kd.R_far (p := ⟨gb164, 3, none⟩) (Kd.R_far (p := ⟨gb164, 2, none⟩) (Kd.R_far (p := ⟨gb164, 1, none⟩) (Kd.R_far (p := ⟨gb164, 0, none⟩) (Kd.R_far (p := ⟨gb164, 3, none⟩) (Kd.R_far (p := ⟨gb164, 2, none⟩) (Kd.R_far (p := ⟨gb164, 1, none⟩) (Kd.R_far (p := ⟨gb164, 0, none⟩) (Kd.R_types HO156.out BK164.out (by decide)) (fun _ hk => hk.2) (.int .i64 0)) (fun _ hk => hk.2) (.int .i64 0)) (fun _ hk => hk.2) (.slice none 0 0)) (fun _ hk => hk.2) (.int .i64 0)) (fun _ hk => hk.2) (.int .i64 ((rd_T29 l0 x3_1).f0.f0))) (fun _ hk => hk.2) (.int .i64 4)) (fun _ hk => hk.2) (.slice none 0 0)) (fun _ hk => hk.2) (.int .i64 (wrap64 (8 * ((rd_T29 l0 x3_1).f0.f7))))) (fun _ hk => (by simp [Value.ownBlock]))⟩, ⟨by first | exact Kd.R_nil _ _ _ _ _ | exact Kd.N_nil _ _ _ _ _ | exact Kd.V_nil _ _ _ _ _ | exact Kd.Q_nil _ _ _ _ _ | exact Kd.S_nil _ _ _ _ _⟩, ⟨by (with_reducible repeat (first | refine blk_drewN ?_ _ | refine blk_drew ?_ | refine blk_alloc ?_ _)); refine blk_far ?_ NB151_164.out _; (with_reducible repeat (first | refine blk_drewN ?_ _ | refine blk_drew ?_ | refine blk_alloc ?_ _)); refine blk_far ?_ NB151_164.out _; (with_reducible repeat (first | refine blk_drewN ?_ _ | refine blk_drew ?_ | refine blk_alloc ?_ _)); refine blk_far ?_ NB151_164.out _; (with_reducible repeat (first | refine blk_drewN ?_ _ | refine blk_drew ?_ | refine blk_alloc ?_ _)); refine blk_far ?_ NB151_164.out _; (with_reducible repeat (first | refine blk_drewN ?_ _ | refine blk_drew ?_ | refine blk_alloc ?_ _)); refine blk_far ?_ NB151_164.out _; (with_reducible repeat (first | refine blk_drewN ?_ _ | refine blk_drew ?_ | refine blk_alloc ?_ _)); refine blk_far ?_ NB151_164.out _; (with_reducible repeat (first | refine blk_drewN ?_ _ | refine blk_drew ?_ | refine blk_alloc ?_ _)); refine blk_far ?_ NB151_164.out _; (with_reducible repeat (first | refine blk_drewN ?_ _ | refine blk_drew ?_ | refine blk_alloc ?_ _)); refine blk_far ?_ NB151_164.out _; (with_reducible repeat (first | refine blk_drewN ?_ _ | refine blk_drew ?_ | refine blk_alloc ?_ _)); exact BK151.out⟩, ⟨by (with_reducible repeat (first | refine blk_drewN ?_ _ | refine blk_drew ?_ | refine blk_alloc ?_ _)); refine blk_far ?_ NB160_164.out _; (with_reducible repeat (first | refine blk_drewN ?_ _ | refine blk_drew ?_ | refine blk_alloc ?_ _)); refine blk_far ?_ NB160_164.out _; (with_reducible repeat (first | refine blk_drewN ?_ _ | refine blk_drew ?_ | refine blk_alloc ?_ _)); refine blk_far ?_ NB160_164.out _; (with_reducible repeat (first | refine blk_drewN ?_ _ | refine blk_drew ?_ | refine blk_alloc ?_ _)); refine blk_far ?_ NB160_164.out _; (with_reducible repeat (first | refine blk_drewN ?_ _ | refine blk_drew ?_ | refine blk_alloc ?_ _)); refine blk_far ?_ NB160_164.out _; (with_reducible repeat (first | refine blk_drewN ?_ _ | refine blk_drew ?_ | refine blk_alloc ?_ _)); refine blk_far ?_ NB160_164.out _; (with_reducible repeat (first | refine blk_drewN ?_ _ | refine blk_drew ?_ | refine blk_alloc ?_ _)); refine blk_far ?_ NB160_164.out _; (with_reducible repeat (first | refine blk_drewN ?_ _ | refine blk_drew ?_ | refine blk_alloc ?_ _)); refine blk_far ?_ NB160_164.out _; (with_reducible repeat (first | refine blk_drewN ?_ _ | refine blk_drew ?_ | refine blk_alloc ?_ _)); exact BK160.out⟩, ⟨by (with_reducible repeat (first | refine blk_drewN ?_ _ | refine blk_drew ?_ | refine blk_alloc ?_ _)); refine blk_put (cs := #[.int .i64 ((rd_T29 l0 x3_1).f0.f0), .int .i64 4, .slice none 0 0, .int .i64 0]) ?_ 3 _ rfl; (with_reducible repeat (first | refine blk_drewN ?_ _ | refine blk_drew ?_ | refine blk_alloc ?_ _)); refine blk_put (cs := #[.int .i64 ((rd_T29 l0 x3_1).f0.f0), .int .i64 4, .slice none 0 0, .int .i64 0]) ?_ 2 _ rfl; (with_reducible repeat (first | refine blk_drewN ?_ _ | refine blk_drew ?_ | refine blk_alloc ?_ _)); refine blk_put (cs := #[.int .i64 ((rd_T29 l0 x3_1).f0.f0), .int .i64 0, .slice none 0 0, .int .i64 0]) ?_ 1 _ rfl; (with_reducible repeat (first | refine blk_drewN ?_ _ | refine blk_drew ?_ | refine blk_alloc ?_ _)); refine blk_put (cs := #[.int .i64 0, .int .i64 0, .slice none 0 0, .int .i64 0]) ?_ 0 _ rfl; (with_reducible repeat (first | refine blk_drewN ?_ _ | refine blk_drew ?_ | refine blk_alloc ?_ _)); refine blk_put (cs := #[.int .i64 0, .int .i64 0, .slice none 0 0, .int .i64 0]) ?_ 3 _ rfl; (with_reducible repeat (first | refine blk_drewN ?_ _ | refine blk_drew ?_ | refine blk_alloc ?_ _)); refine blk_put (cs := #[.int .i64 0, .int .i64 0, .slice none 0 0, .int .i64 0]) ?_ 2 _ rfl; (with_reducible repeat (first | refine blk_drewN ?_ _ | refine blk_drew ?_ | refine blk_alloc ?_ _)); refine blk_put (cs := #[.int .i64 0, .int .i64 0, .slice none 0 0, .int .i64 0]) ?_ 1 _ rfl; (with_reducible repeat (first | refine blk_drewN ?_ _ | refine blk_drew ?_ | refine blk_alloc ?_ _)); refine blk_put (cs := #[.int .i64 0, .int .i64 0, .slice none 0 0, .int .i64 0]) ?_ 0 _ rfl; (with_reducible repeat (first | refine blk_drewN ?_ _ | refine blk_drew ?_ | refine blk_alloc ?_ _)); exact BK164.out⟩, ⟨by repeat (first | (with_reducible first | exact HB.out | apply below_alloc | apply pw_below_drewN | apply below_drew1 | refine below_set ?_ GE151.out | refine below_set ?_ GE160.out | refine below_set ?_ GE164.out) | exact HB.out)⟩⟩
                            · rw [if_neg c55] at H
                              have c55b0 : (((rd_T29 l0 x3_1).f0.f4) == 5) = false := beq_eq_false_iff_ne.mpr c55
                              have c55b1 : (((rd_T29 l0 x3_1).f0.f4) != 5) = true := bne_iff_ne.mpr c55
                              by_cases c61 : ((rd_T29 l0 x3_1).f0.f4) = 6
                              · rw [if_pos c61] at H
                                have c61b0 : (((rd_T29 l0 x3_1).f0.f4) == 6) = true := beq_iff_eq.mpr c61
                                have c61b1 : (((rd_T29 l0 x3_1).f0.f4) != 6) = false := bne_eq_false_iff_eq.mpr c61
                                clear c61
                                obtain ⟨y171, hy171⟩ : ∃ y_ : List Int, y_ = (([0] : List Int)) := ⟨_, rfl⟩
                                replace H : (gimballaw9_DrvNexts.j2 kj1 l0 x3_1 t158 t159 ((rd_T29 l0 x3_1).f0.f0) ((rd_T29 l0 x3_1).f0.f1) ((rd_T29 l0 x3_1).f0.f2) ((rd_T29 l0 x3_1).f0.f3) ((rd_T29 l0 x3_1).f0.f4) ((rd_T29 l0 x3_1).f0.f5) ((rd_T29 l0 x3_1).f0.f6) ((rd_T29 l0 x3_1).f0.f7) ((rd_T29 l0 x3_1).f0.f8) t152 t153 t154 t157 ((rd_T29 l0 x3_1).f0.f0) 1 y171 0) = some r := by first | (rw [hy171]; with_reducible exact H) | (have H2_ := (Option.bind_some _ _).symm.trans H; rw [hy171]; with_reducible exact H2_) | (have H2_ := (Option.bind_some _ _).symm.trans H; with_reducible exact H2_) | with_reducible exact H | (rw [hy171]; exact H) | exact H
                                have Ny171 := Aside0.mk hy171
                                clear hy171
                                have H' := Aside0.mk H
                                clear H
                                have hnb62 := NB151_160.out
                                have hnc62 := NB160_151.out
                                have hnb63 := NB151_164.out
                                have hnc63 := NB164_151.out
                                have hcz64_0 : w20.cell? ⟨gb151, 0, none⟩ = some (.int .i64 ((rd_T29 l0 x3_1).f0.f0)) := (blk_cell BK151.out 0).trans rfl
                                have hcz64_1 : w20.cell? ⟨gb151, 1, none⟩ = some (.int .i64 ((rd_T29 l0 x3_1).f0.f1)) := (blk_cell BK151.out 1).trans rfl
                                have hcz64_2 : w20.cell? ⟨gb151, 2, none⟩ = some (.bool ((rd_T29 l0 x3_1).f0.f2)) := (blk_cell BK151.out 2).trans rfl
                                have hcz64_3 : w20.cell? ⟨gb151, 3, none⟩ = some (.int .i64 ((rd_T29 l0 x3_1).f0.f3)) := (blk_cell BK151.out 3).trans rfl
                                have hcz64_4 : w20.cell? ⟨gb151, 4, none⟩ = some (.int .i64 ((rd_T29 l0 x3_1).f0.f4)) := (blk_cell BK151.out 4).trans rfl
                                have hcz64_5 : w20.cell? ⟨gb151, 5, none⟩ = some (.int .i64 ((rd_T29 l0 x3_1).f0.f5)) := (blk_cell BK151.out 5).trans rfl
                                have hcz64_6 : w20.cell? ⟨gb151, 6, none⟩ = some (.bool ((rd_T29 l0 x3_1).f0.f6)) := (blk_cell BK151.out 6).trans rfl
                                have hcz64_7 : w20.cell? ⟨gb151, 7, none⟩ = some (.int .i64 ((rd_T29 l0 x3_1).f0.f7)) := (blk_cell BK151.out 7).trans rfl
                                have hcz64_8 : w20.cell? ⟨gb151, 8, none⟩ = some (.int .i64 ((rd_T29 l0 x3_1).f0.f8)) := (blk_cell BK151.out 8).trans rfl
                                have hfz64_0 := blk_frozen BK151.out 0
                                have hfz64_1 := blk_frozen BK151.out 1
                                have hfz64_2 := blk_frozen BK151.out 2
                                have hfz64_3 := blk_frozen BK151.out 3
                                have hfz64_4 := blk_frozen BK151.out 4
                                have hfz64_5 := blk_frozen BK151.out 5
                                have hfz64_6 := blk_frozen BK151.out 6
                                have hfz64_7 := blk_frozen BK151.out 7
                                have hfz64_8 := blk_frozen BK151.out 8
                                go_wp2_with (first | ((with_reducible refine gate_dst (N := 86) rfl ?_); refine Kd.R_lit (Kd.int .u8) _ 5 ?hg (N := 86) ?hd (xs := ([0] : List Int)) (inner := [.int .u8 0]) (ok := fun _ => True) (okp := fun _ => True) ?hr ?hp (fun _ hk => hk) trivial (Below.refl _ _) (Nat.le_refl _) (by simp) ?_; (case hd => rfl); (case hg => rfl); (case hr => first | (go_simp; done) | (go_simp; rfl)); (case hp => exact (Reps.one (show Kd.M (Kd.int .u8) _ _ _ 0 [.int .u8 0] from rfl) (Reps.none _ _))); intro v172 w65 ho66 hb hg_ hnew_; clear hg_ hnew_; (first | rw [← Ny171.out] at ho66 | (simp only [Int.reduceToNat] at ho66; rw [← Ny171.out] at ho66)); have n0_ := Aside0.mk (Kd.R_elder' (by (with_reducible repeat (first | apply Kd.R_alloc | apply Kd.R_drewN | apply Kd.R_drew)); exact (Kd.R_mono (Kd.R_far (p := ⟨gb164, 3, none⟩) (Kd.R_far (p := ⟨gb164, 2, none⟩) (Kd.R_far (p := ⟨gb164, 1, none⟩) (Kd.R_far (p := ⟨gb164, 0, none⟩) (Kd.R_types HO156.out BK164.out (by decide)) (fun _ hk => hk.2) (.int .i64 0)) (fun _ hk => hk.2) (.int .i64 0)) (fun _ hk => hk.2) (.slice none 0 0)) (fun _ hk => hk.2) (.int .i64 0)) (fun _ h_ => h_.1))) (Kd.R_base ho66) hb); have n1_ := Aside0.mk (Kd.R_lower (Kd.R_new' ho66 (Kd.R_lt (by (with_reducible repeat (first | apply Kd.R_alloc | apply Kd.R_drewN | apply Kd.R_drew)); exact (Kd.R_mono (Kd.R_far (p := ⟨gb164, 3, none⟩) (Kd.R_far (p := ⟨gb164, 2, none⟩) (Kd.R_far (p := ⟨gb164, 1, none⟩) (Kd.R_far (p := ⟨gb164, 0, none⟩) (Kd.R_types HO156.out BK164.out (by decide)) (fun _ hk => hk.2) (.int .i64 0)) (fun _ hk => hk.2) (.int .i64 0)) (fun _ hk => hk.2) (.slice none 0 0)) (fun _ hk => hk.2) (.int .i64 0)) (fun _ h_ => h_.1))))) (below_size (by repeat (first | (with_reducible first | exact HB.out | apply below_alloc | apply pw_below_drewN | apply below_drew1 | refine below_set ?_ GE151.out | refine below_set ?_ GE160.out | refine below_set ?_ GE164.out) | exact HB.out)))); have n2_ := Aside0.mk (blk_below (g := gb151) (o := .cells #[.int .i64 ((rd_T29 l0 x3_1).f0.f0), .int .i64 ((rd_T29 l0 x3_1).f0.f1), .bool ((rd_T29 l0 x3_1).f0.f2), .int .i64 ((rd_T29 l0 x3_1).f0.f3), .int .i64 ((rd_T29 l0 x3_1).f0.f4), .int .i64 ((rd_T29 l0 x3_1).f0.f5), .bool ((rd_T29 l0 x3_1).f0.f6), .int .i64 ((rd_T29 l0 x3_1).f0.f7), .int .i64 ((rd_T29 l0 x3_1).f0.f8)] 24 (0, 0)) (by (with_reducible repeat (first | refine blk_drewN ?_ _ | refine blk_drew ?_ | refine blk_alloc ?_ _)); refine blk_far ?_ NB151_164.out _; (with_reducible repeat (first | refine blk_drewN ?_ _ | refine blk_drew ?_ | refine blk_alloc ?_ _)); refine blk_far ?_ NB151_164.out _; (with_reducible repeat (first | refine blk_drewN ?_ _ | refine blk_drew ?_ | refine blk_alloc ?_ _)); refine blk_far ?_ NB151_164.out _; (with_reducible repeat (first | refine blk_drewN ?_ _ | refine blk_drew ?_ | refine blk_alloc ?_ _)); refine blk_far ?_ NB151_164.out _; (with_reducible repeat (first | refine blk_drewN ?_ _ | refine blk_drew ?_ | refine blk_alloc ?_ _)); exact BK151.out) hb); have n3_ := Aside0.mk (blk_below (g := gb160) (o := .cells #[.int .i64 t152, .int .i64 t153, .slice Ao17 t154.length co17, .int .i64 t157] 31 (0, 0)) (by (with_reducible repeat (first | refine blk_drewN ?_ _ | refine blk_drew ?_ | refine blk_alloc ?_ _)); refine blk_far ?_ NB160_164.out _; (with_reducible repeat (first | refine blk_drewN ?_ _ | refine blk_drew ?_ | refine blk_alloc ?_ _)); refine blk_far ?_ NB160_164.out _; (with_reducible repeat (first | refine blk_drewN ?_ _ | refine blk_drew ?_ | refine blk_alloc ?_ _)); refine blk_far ?_ NB160_164.out _; (with_reducible repeat (first | refine blk_drewN ?_ _ | refine blk_drew ?_ | refine blk_alloc ?_ _)); refine blk_far ?_ NB160_164.out _; (with_reducible repeat (first | refine blk_drewN ?_ _ | refine blk_drew ?_ | refine blk_alloc ?_ _)); exact BK160.out) hb); have n4_ := Aside0.mk (blk_below (g := gb164) (o := .cells #[.int .i64 0, .int .i64 0, .slice none 0 0, .int .i64 0] 31 (0, 0)) (by (with_reducible repeat (first | refine blk_drewN ?_ _ | refine blk_drew ?_ | refine blk_alloc ?_ _)); refine blk_put (cs := #[.int .i64 0, .int .i64 0, .slice none 0 0, .int .i64 0]) ?_ 3 _ rfl; (with_reducible repeat (first | refine blk_drewN ?_ _ | refine blk_drew ?_ | refine blk_alloc ?_ _)); refine blk_put (cs := #[.int .i64 0, .int .i64 0, .slice none 0 0, .int .i64 0]) ?_ 2 _ rfl; (with_reducible repeat (first | refine blk_drewN ?_ _ | refine blk_drew ?_ | refine blk_alloc ?_ _)); refine blk_put (cs := #[.int .i64 0, .int .i64 0, .slice none 0 0, .int .i64 0]) ?_ 1 _ rfl; (with_reducible repeat (first | refine blk_drewN ?_ _ | refine blk_drew ?_ | refine blk_alloc ?_ _)); refine blk_put (cs := #[.int .i64 0, .int .i64 0, .slice none 0 0, .int .i64 0]) ?_ 0 _ rfl; (with_reducible repeat (first | refine blk_drewN ?_ _ | refine blk_drew ?_ | refine blk_alloc ?_ _)); exact BK164.out) hb); have n5_ := Aside0.mk (below_step (by repeat (first | (with_reducible first | exact HB.out | apply below_alloc | apply pw_below_drewN | apply below_drew1 | refine below_set ?_ GE151.out | refine below_set ?_ GE160.out | refine below_set ?_ GE164.out) | exact HB.out)) hb); clear HO156; clear BK151; clear BK160; clear BK164; clear HB; have HO156 := n0_; have HO173 := n1_; have BK151 := n2_; have BK160 := n3_; have BK164 := n4_; have HB := n5_; clear n0_ n1_ n2_ n3_ n4_ n5_; clear hb ho66; obtain ⟨Ao67, co67, eo67⟩ := Kd.R_slice HO173.out; subst eo67; have hnb68 := NB164_160.out; have hnc68 := NB160_164.out; have hcz69_0 : w65.cell? ⟨gb164, 0, none⟩ = some (.int .i64 0) := (blk_cell BK164.out 0).trans rfl; have hcz69_1 : w65.cell? ⟨gb164, 1, none⟩ = some (.int .i64 0) := (blk_cell BK164.out 1).trans rfl; have hcz69_2 : w65.cell? ⟨gb164, 2, none⟩ = some (.slice none 0 0) := (blk_cell BK164.out 2).trans rfl; have hcz69_3 : w65.cell? ⟨gb164, 3, none⟩ = some (.int .i64 0) := (blk_cell BK164.out 3).trans rfl; have hfz69_0 := blk_frozen BK164.out 0; have hfz69_1 := blk_frozen BK164.out 1; have hfz69_2 := blk_frozen BK164.out 2; have hfz69_3 := blk_frozen BK164.out 3))
                                go_meet
                                case rel => exact ⟨_, ((rd_T29 l0 x3_1).f0.f0), (1), (y171), (0), (.slice Ao67 y171.length co67), H', ⟨by have := HK1.out; have := HJ1.out; first | omega | exact Nat.le_refl _⟩, ⟨by (with_reducible repeat (first | apply Kd.R_alloc | apply Kd.R_drewN | apply Kd.R_drew)); exact Kd.R_mono (Kd.R_far (p := ⟨gb164, 3, none⟩) (Kd.R_far (p := ⟨gb164, 2, none⟩) (Kd.R_far (p := ⟨gb164, 1, none⟩) (Kd.R_far (p := ⟨gb164, 0, none⟩) (Kd.R_types HO156.out BK164.out (by decide)) (fun _ hk => hk.2) (.int .i64 ((rd_T29 l0 x3_1).f0.f0))) (fun _ hk => hk.2) (.int .i64 1)) (fun _ hk => hk.2) (.slice Ao67 y171.length co67)) (fun _ hk => hk.2) (.int .i64 0)) (fun _ hk => hk.1.2)⟩, ⟨by (with_reducible repeat (first | apply Kd.R_alloc | apply Kd.R_drewN | apply Kd.R_drew)); exact Kd.R_mono (Kd.R_far (p := ⟨gb164, 3, none⟩) (Kd.R_far (p := ⟨gb164, 2, none⟩) (Kd.R_far (p := ⟨gb164, 1, none⟩) (Kd.R_far (p := ⟨gb164, 0, none⟩) (Kd.R_types HO173.out BK164.out (by decide)) (fun _ hk => hk.2) (.int .i64 ((rd_T29 l0 x3_1).f0.f0))) (fun _ hk => hk.2) (.int .i64 1)) (fun _ hk => hk.2) (.slice Ao67 y171.length co67)) (fun _ hk => hk.2) (.int .i64 0)) (fun _ hk => hk.1.2)⟩, ⟨by (with_reducible repeat (first | refine blk_drewN ?_ _ | refine blk_drew ?_ | refine blk_alloc ?_ _)); refine blk_far ?_ NB151_164.out _; (with_reducible repeat (first | refine blk_drewN ?_ _ | refine blk_drew ?_ | refine blk_alloc ?_ _)); refine blk_far ?_ NB151_164.out _; (with_reducible repeat (first | refine blk_drewN ?_ _ | refine blk_drew ?_ | refine blk_alloc ?_ _)); refine blk_far ?_ NB151_164.out _; (with_reducible repeat (first | refine blk_drewN ?_ _ | refine blk_drew ?_ | refine blk_alloc ?_ _)); refine blk_far ?_ NB151_164.out _; (with_reducible repeat (first | refine blk_drewN ?_ _ | refine blk_drew ?_ | refine blk_alloc ?_ _)); exact BK151.out⟩, ⟨by (with_reducible repeat (first | refine blk_drewN ?_ _ | refine blk_drew ?_ | refine blk_alloc ?_ _)); refine blk_far ?_ NB160_164.out _; (with_reducible repeat (first | refine blk_drewN ?_ _ | refine blk_drew ?_ | refine blk_alloc ?_ _)); refine blk_far ?_ NB160_164.out _; (with_reducible repeat (first | refine blk_drewN ?_ _ | refine blk_drew ?_ | refine blk_alloc ?_ _)); refine blk_far ?_ NB160_164.out _; (with_reducible repeat (first | refine blk_drewN ?_ _ | refine blk_drew ?_ | refine blk_alloc ?_ _)); refine blk_far ?_ NB160_164.out _; (with_reducible repeat (first | refine blk_drewN ?_ _ | refine blk_drew ?_ | refine blk_alloc ?_ _)); exact BK160.out⟩, ⟨by (with_reducible repeat (first | refine blk_drewN ?_ _ | refine blk_drew ?_ | refine blk_alloc ?_ _)); refine blk_put (cs := #[.int .i64 ((rd_T29 l0 x3_1).f0.f0), .int .i64 1, .slice Ao67 y171.length co67, .int .i64 0]) ?_ 3 _ rfl; (with_reducible repeat (first | refine blk_drewN ?_ _ | refine blk_drew ?_ | refine blk_alloc ?_ _)); refine blk_put (cs := #[.int .i64 ((rd_T29 l0 x3_1).f0.f0), .int .i64 1, .slice none 0 0, .int .i64 0]) ?_ 2 _ rfl; (with_reducible repeat (first | refine blk_drewN ?_ _ | refine blk_drew ?_ | refine blk_alloc ?_ _)); refine blk_put (cs := #[.int .i64 ((rd_T29 l0 x3_1).f0.f0), .int .i64 0, .slice none 0 0, .int .i64 0]) ?_ 1 _ rfl; (with_reducible repeat (first | refine blk_drewN ?_ _ | refine blk_drew ?_ | refine blk_alloc ?_ _)); refine blk_put (cs := #[.int .i64 0, .int .i64 0, .slice none 0 0, .int .i64 0]) ?_ 0 _ rfl; (with_reducible repeat (first | refine blk_drewN ?_ _ | refine blk_drew ?_ | refine blk_alloc ?_ _)); exact BK164.out⟩, ⟨by repeat (first | (with_reducible first | exact HB.out | apply below_alloc | apply pw_below_drewN | apply below_drew1 | refine below_set ?_ GE151.out | refine below_set ?_ GE160.out | refine below_set ?_ GE164.out) | exact HB.out)⟩⟩
                              · rw [if_neg c61] at H
                                have c61b0 : (((rd_T29 l0 x3_1).f0.f4) == 6) = false := beq_eq_false_iff_ne.mpr c61
                                have c61b1 : (((rd_T29 l0 x3_1).f0.f4) != 6) = true := bne_iff_ne.mpr c61
                                by_cases c70 : ((rd_T29 l0 x3_1).f0.f4) = 7
                                · rw [if_pos c70] at H
                                  have c70b0 : (((rd_T29 l0 x3_1).f0.f4) == 7) = true := beq_iff_eq.mpr c70
                                  have c70b1 : (((rd_T29 l0 x3_1).f0.f4) != 7) = false := bne_eq_false_iff_eq.mpr c70
                                  clear c70
                                  obtain ⟨y174, hy174⟩ : ∃ y_ : List Int, y_ = (([182] : List Int)) := ⟨_, rfl⟩
                                  replace H : (gimballaw9_DrvNexts.j2 kj1 l0 x3_1 t158 t159 ((rd_T29 l0 x3_1).f0.f0) ((rd_T29 l0 x3_1).f0.f1) ((rd_T29 l0 x3_1).f0.f2) ((rd_T29 l0 x3_1).f0.f3) ((rd_T29 l0 x3_1).f0.f4) ((rd_T29 l0 x3_1).f0.f5) ((rd_T29 l0 x3_1).f0.f6) ((rd_T29 l0 x3_1).f0.f7) ((rd_T29 l0 x3_1).f0.f8) t152 t153 t154 t157 ((rd_T29 l0 x3_1).f0.f0) 5 y174 0) = some r := by first | (rw [hy174]; with_reducible exact H) | (have H2_ := (Option.bind_some _ _).symm.trans H; rw [hy174]; with_reducible exact H2_) | (have H2_ := (Option.bind_some _ _).symm.trans H; with_reducible exact H2_) | with_reducible exact H | (rw [hy174]; exact H) | exact H
                                  have Ny174 := Aside0.mk hy174
                                  clear hy174
                                  have H' := Aside0.mk H
                                  clear H
                                  have hnb71 := NB151_160.out
                                  have hnc71 := NB160_151.out
                                  have hnb72 := NB151_164.out
                                  have hnc72 := NB164_151.out
                                  have hcz73_0 : w20.cell? ⟨gb151, 0, none⟩ = some (.int .i64 ((rd_T29 l0 x3_1).f0.f0)) := (blk_cell BK151.out 0).trans rfl
                                  have hcz73_1 : w20.cell? ⟨gb151, 1, none⟩ = some (.int .i64 ((rd_T29 l0 x3_1).f0.f1)) := (blk_cell BK151.out 1).trans rfl
                                  have hcz73_2 : w20.cell? ⟨gb151, 2, none⟩ = some (.bool ((rd_T29 l0 x3_1).f0.f2)) := (blk_cell BK151.out 2).trans rfl
                                  have hcz73_3 : w20.cell? ⟨gb151, 3, none⟩ = some (.int .i64 ((rd_T29 l0 x3_1).f0.f3)) := (blk_cell BK151.out 3).trans rfl
                                  have hcz73_4 : w20.cell? ⟨gb151, 4, none⟩ = some (.int .i64 ((rd_T29 l0 x3_1).f0.f4)) := (blk_cell BK151.out 4).trans rfl
                                  have hcz73_5 : w20.cell? ⟨gb151, 5, none⟩ = some (.int .i64 ((rd_T29 l0 x3_1).f0.f5)) := (blk_cell BK151.out 5).trans rfl
                                  have hcz73_6 : w20.cell? ⟨gb151, 6, none⟩ = some (.bool ((rd_T29 l0 x3_1).f0.f6)) := (blk_cell BK151.out 6).trans rfl
                                  have hcz73_7 : w20.cell? ⟨gb151, 7, none⟩ = some (.int .i64 ((rd_T29 l0 x3_1).f0.f7)) := (blk_cell BK151.out 7).trans rfl
                                  have hcz73_8 : w20.cell? ⟨gb151, 8, none⟩ = some (.int .i64 ((rd_T29 l0 x3_1).f0.f8)) := (blk_cell BK151.out 8).trans rfl
                                  have hfz73_0 := blk_frozen BK151.out 0
                                  have hfz73_1 := blk_frozen BK151.out 1
                                  have hfz73_2 := blk_frozen BK151.out 2
                                  have hfz73_3 := blk_frozen BK151.out 3
                                  have hfz73_4 := blk_frozen BK151.out 4
                                  have hfz73_5 := blk_frozen BK151.out 5
                                  have hfz73_6 := blk_frozen BK151.out 6
                                  have hfz73_7 := blk_frozen BK151.out 7
                                  have hfz73_8 := blk_frozen BK151.out 8
                                  go_wp2_with (first | ((with_reducible refine gate_dst (N := 92) rfl ?_); refine Kd.R_lit (Kd.int .u8) _ 5 ?hg (N := 92) ?hd (xs := ([182] : List Int)) (inner := [.int .u8 182]) (ok := fun _ => True) (okp := fun _ => True) ?hr ?hp (fun _ hk => hk) trivial (Below.refl _ _) (Nat.le_refl _) (by simp) ?_; (case hd => rfl); (case hg => rfl); (case hr => first | (go_simp; done) | (go_simp; rfl)); (case hp => exact (Reps.one (show Kd.M (Kd.int .u8) _ _ _ 182 [.int .u8 182] from rfl) (Reps.none _ _))); intro v175 w74 ho75 hb hg_ hnew_; clear hg_ hnew_; (first | rw [← Ny174.out] at ho75 | (simp only [Int.reduceToNat] at ho75; rw [← Ny174.out] at ho75)); have n0_ := Aside0.mk (Kd.R_elder' (by (with_reducible repeat (first | apply Kd.R_alloc | apply Kd.R_drewN | apply Kd.R_drew)); exact (Kd.R_mono (Kd.R_far (p := ⟨gb164, 3, none⟩) (Kd.R_far (p := ⟨gb164, 2, none⟩) (Kd.R_far (p := ⟨gb164, 1, none⟩) (Kd.R_far (p := ⟨gb164, 0, none⟩) (Kd.R_types HO156.out BK164.out (by decide)) (fun _ hk => hk.2) (.int .i64 0)) (fun _ hk => hk.2) (.int .i64 0)) (fun _ hk => hk.2) (.slice none 0 0)) (fun _ hk => hk.2) (.int .i64 0)) (fun _ h_ => h_.1))) (Kd.R_base ho75) hb); have n1_ := Aside0.mk (Kd.R_lower (Kd.R_new' ho75 (Kd.R_lt (by (with_reducible repeat (first | apply Kd.R_alloc | apply Kd.R_drewN | apply Kd.R_drew)); exact (Kd.R_mono (Kd.R_far (p := ⟨gb164, 3, none⟩) (Kd.R_far (p := ⟨gb164, 2, none⟩) (Kd.R_far (p := ⟨gb164, 1, none⟩) (Kd.R_far (p := ⟨gb164, 0, none⟩) (Kd.R_types HO156.out BK164.out (by decide)) (fun _ hk => hk.2) (.int .i64 0)) (fun _ hk => hk.2) (.int .i64 0)) (fun _ hk => hk.2) (.slice none 0 0)) (fun _ hk => hk.2) (.int .i64 0)) (fun _ h_ => h_.1))))) (below_size (by repeat (first | (with_reducible first | exact HB.out | apply below_alloc | apply pw_below_drewN | apply below_drew1 | refine below_set ?_ GE151.out | refine below_set ?_ GE160.out | refine below_set ?_ GE164.out) | exact HB.out)))); have n2_ := Aside0.mk (blk_below (g := gb151) (o := .cells #[.int .i64 ((rd_T29 l0 x3_1).f0.f0), .int .i64 ((rd_T29 l0 x3_1).f0.f1), .bool ((rd_T29 l0 x3_1).f0.f2), .int .i64 ((rd_T29 l0 x3_1).f0.f3), .int .i64 ((rd_T29 l0 x3_1).f0.f4), .int .i64 ((rd_T29 l0 x3_1).f0.f5), .bool ((rd_T29 l0 x3_1).f0.f6), .int .i64 ((rd_T29 l0 x3_1).f0.f7), .int .i64 ((rd_T29 l0 x3_1).f0.f8)] 24 (0, 0)) (by (with_reducible repeat (first | refine blk_drewN ?_ _ | refine blk_drew ?_ | refine blk_alloc ?_ _)); refine blk_far ?_ NB151_164.out _; (with_reducible repeat (first | refine blk_drewN ?_ _ | refine blk_drew ?_ | refine blk_alloc ?_ _)); refine blk_far ?_ NB151_164.out _; (with_reducible repeat (first | refine blk_drewN ?_ _ | refine blk_drew ?_ | refine blk_alloc ?_ _)); refine blk_far ?_ NB151_164.out _; (with_reducible repeat (first | refine blk_drewN ?_ _ | refine blk_drew ?_ | refine blk_alloc ?_ _)); refine blk_far ?_ NB151_164.out _; (with_reducible repeat (first | refine blk_drewN ?_ _ | refine blk_drew ?_ | refine blk_alloc ?_ _)); exact BK151.out) hb); have n3_ := Aside0.mk (blk_below (g := gb160) (o := .cells #[.int .i64 t152, .int .i64 t153, .slice Ao17 t154.length co17, .int .i64 t157] 31 (0, 0)) (by (with_reducible repeat (first | refine blk_drewN ?_ _ | refine blk_drew ?_ | refine blk_alloc ?_ _)); refine blk_far ?_ NB160_164.out _; (with_reducible repeat (first | refine blk_drewN ?_ _ | refine blk_drew ?_ | refine blk_alloc ?_ _)); refine blk_far ?_ NB160_164.out _; (with_reducible repeat (first | refine blk_drewN ?_ _ | refine blk_drew ?_ | refine blk_alloc ?_ _)); refine blk_far ?_ NB160_164.out _; (with_reducible repeat (first | refine blk_drewN ?_ _ | refine blk_drew ?_ | refine blk_alloc ?_ _)); refine blk_far ?_ NB160_164.out _; (with_reducible repeat (first | refine blk_drewN ?_ _ | refine blk_drew ?_ | refine blk_alloc ?_ _)); exact BK160.out) hb); have n4_ := Aside0.mk (blk_below (g := gb164) (o := .cells #[.int .i64 0, .int .i64 0, .slice none 0 0, .int .i64 0] 31 (0, 0)) (by (with_reducible repeat (first | refine blk_drewN ?_ _ | refine blk_drew ?_ | refine blk_alloc ?_ _)); refine blk_put (cs := #[.int .i64 0, .int .i64 0, .slice none 0 0, .int .i64 0]) ?_ 3 _ rfl; (with_reducible repeat (first | refine blk_drewN ?_ _ | refine blk_drew ?_ | refine blk_alloc ?_ _)); refine blk_put (cs := #[.int .i64 0, .int .i64 0, .slice none 0 0, .int .i64 0]) ?_ 2 _ rfl; (with_reducible repeat (first | refine blk_drewN ?_ _ | refine blk_drew ?_ | refine blk_alloc ?_ _)); refine blk_put (cs := #[.int .i64 0, .int .i64 0, .slice none 0 0, .int .i64 0]) ?_ 1 _ rfl; (with_reducible repeat (first | refine blk_drewN ?_ _ | refine blk_drew ?_ | refine blk_alloc ?_ _)); refine blk_put (cs := #[.int .i64 0, .int .i64 0, .slice none 0 0, .int .i64 0]) ?_ 0 _ rfl; (with_reducible repeat (first | refine blk_drewN ?_ _ | refine blk_drew ?_ | refine blk_alloc ?_ _)); exact BK164.out) hb); have n5_ := Aside0.mk (below_step (by repeat (first | (with_reducible first | exact HB.out | apply below_alloc | apply pw_below_drewN | apply below_drew1 | refine below_set ?_ GE151.out | refine below_set ?_ GE160.out | refine below_set ?_ GE164.out) | exact HB.out)) hb); clear HO156; clear BK151; clear BK160; clear BK164; clear HB; have HO156 := n0_; have HO176 := n1_; have BK151 := n2_; have BK160 := n3_; have BK164 := n4_; have HB := n5_; clear n0_ n1_ n2_ n3_ n4_ n5_; clear hb ho75; obtain ⟨Ao76, co76, eo76⟩ := Kd.R_slice HO176.out; subst eo76; have hnb77 := NB164_160.out; have hnc77 := NB160_164.out; have hcz78_0 : w74.cell? ⟨gb164, 0, none⟩ = some (.int .i64 0) := (blk_cell BK164.out 0).trans rfl; have hcz78_1 : w74.cell? ⟨gb164, 1, none⟩ = some (.int .i64 0) := (blk_cell BK164.out 1).trans rfl; have hcz78_2 : w74.cell? ⟨gb164, 2, none⟩ = some (.slice none 0 0) := (blk_cell BK164.out 2).trans rfl; have hcz78_3 : w74.cell? ⟨gb164, 3, none⟩ = some (.int .i64 0) := (blk_cell BK164.out 3).trans rfl; have hfz78_0 := blk_frozen BK164.out 0; have hfz78_1 := blk_frozen BK164.out 1; have hfz78_2 := blk_frozen BK164.out 2; have hfz78_3 := blk_frozen BK164.out 3))
                                  go_meet
                                  case rel => exact ⟨_, ((rd_T29 l0 x3_1).f0.f0), (5), (y174), (0), (.slice Ao76 y174.length co76), H', ⟨by have := HK1.out; have := HJ1.out; first | omega | exact Nat.le_refl _⟩, ⟨by (with_reducible repeat (first | apply Kd.R_alloc | apply Kd.R_drewN | apply Kd.R_drew)); exact Kd.R_mono (Kd.R_far (p := ⟨gb164, 3, none⟩) (Kd.R_far (p := ⟨gb164, 2, none⟩) (Kd.R_far (p := ⟨gb164, 1, none⟩) (Kd.R_far (p := ⟨gb164, 0, none⟩) (Kd.R_types HO156.out BK164.out (by decide)) (fun _ hk => hk.2) (.int .i64 ((rd_T29 l0 x3_1).f0.f0))) (fun _ hk => hk.2) (.int .i64 5)) (fun _ hk => hk.2) (.slice Ao76 y174.length co76)) (fun _ hk => hk.2) (.int .i64 0)) (fun _ hk => hk.1.2)⟩, ⟨by (with_reducible repeat (first | apply Kd.R_alloc | apply Kd.R_drewN | apply Kd.R_drew)); exact Kd.R_mono (Kd.R_far (p := ⟨gb164, 3, none⟩) (Kd.R_far (p := ⟨gb164, 2, none⟩) (Kd.R_far (p := ⟨gb164, 1, none⟩) (Kd.R_far (p := ⟨gb164, 0, none⟩) (Kd.R_types HO176.out BK164.out (by decide)) (fun _ hk => hk.2) (.int .i64 ((rd_T29 l0 x3_1).f0.f0))) (fun _ hk => hk.2) (.int .i64 5)) (fun _ hk => hk.2) (.slice Ao76 y174.length co76)) (fun _ hk => hk.2) (.int .i64 0)) (fun _ hk => hk.1.2)⟩, ⟨by (with_reducible repeat (first | refine blk_drewN ?_ _ | refine blk_drew ?_ | refine blk_alloc ?_ _)); refine blk_far ?_ NB151_164.out _; (with_reducible repeat (first | refine blk_drewN ?_ _ | refine blk_drew ?_ | refine blk_alloc ?_ _)); refine blk_far ?_ NB151_164.out _; (with_reducible repeat (first | refine blk_drewN ?_ _ | refine blk_drew ?_ | refine blk_alloc ?_ _)); refine blk_far ?_ NB151_164.out _; (with_reducible repeat (first | refine blk_drewN ?_ _ | refine blk_drew ?_ | refine blk_alloc ?_ _)); refine blk_far ?_ NB151_164.out _; (with_reducible repeat (first | refine blk_drewN ?_ _ | refine blk_drew ?_ | refine blk_alloc ?_ _)); exact BK151.out⟩, ⟨by (with_reducible repeat (first | refine blk_drewN ?_ _ | refine blk_drew ?_ | refine blk_alloc ?_ _)); refine blk_far ?_ NB160_164.out _; (with_reducible repeat (first | refine blk_drewN ?_ _ | refine blk_drew ?_ | refine blk_alloc ?_ _)); refine blk_far ?_ NB160_164.out _; (with_reducible repeat (first | refine blk_drewN ?_ _ | refine blk_drew ?_ | refine blk_alloc ?_ _)); refine blk_far ?_ NB160_164.out _; (with_reducible repeat (first | refine blk_drewN ?_ _ | refine blk_drew ?_ | refine blk_alloc ?_ _)); refine blk_far ?_ NB160_164.out _; (with_reducible repeat (first | refine blk_drewN ?_ _ | refine blk_drew ?_ | refine blk_alloc ?_ _)); exact BK160.out⟩, ⟨by (with_reducible repeat (first | refine blk_drewN ?_ _ | refine blk_drew ?_ | refine blk_alloc ?_ _)); refine blk_put (cs := #[.int .i64 ((rd_T29 l0 x3_1).f0.f0), .int .i64 5, .slice Ao76 y174.length co76, .int .i64 0]) ?_ 3 _ rfl; (with_reducible repeat (first | refine blk_drewN ?_ _ | refine blk_drew ?_ | refine blk_alloc ?_ _)); refine blk_put (cs := #[.int .i64 ((rd_T29 l0 x3_1).f0.f0), .int .i64 5, .slice none 0 0, .int .i64 0]) ?_ 2 _ rfl; (with_reducible repeat (first | refine blk_drewN ?_ _ | refine blk_drew ?_ | refine blk_alloc ?_ _)); refine blk_put (cs := #[.int .i64 ((rd_T29 l0 x3_1).f0.f0), .int .i64 0, .slice none 0 0, .int .i64 0]) ?_ 1 _ rfl; (with_reducible repeat (first | refine blk_drewN ?_ _ | refine blk_drew ?_ | refine blk_alloc ?_ _)); refine blk_put (cs := #[.int .i64 0, .int .i64 0, .slice none 0 0, .int .i64 0]) ?_ 0 _ rfl; (with_reducible repeat (first | refine blk_drewN ?_ _ | refine blk_drew ?_ | refine blk_alloc ?_ _)); exact BK164.out⟩, ⟨by repeat (first | (with_reducible first | exact HB.out | apply below_alloc | apply pw_below_drewN | apply below_drew1 | refine below_set ?_ GE151.out | refine below_set ?_ GE160.out | refine below_set ?_ GE164.out) | exact HB.out)⟩⟩
                                · rw [if_neg c70] at H
                                  have c70b0 : (((rd_T29 l0 x3_1).f0.f4) == 7) = false := beq_eq_false_iff_ne.mpr c70
                                  have c70b1 : (((rd_T29 l0 x3_1).f0.f4) != 7) = true := bne_iff_ne.mpr c70
                                  have H' := Aside0.mk H
                                  clear H
                                  go_wp2
                                  go_meet
                                  case rel => exact ⟨_, (0), (0), (([] : List Int)), (0), (.slice none 0 0), H', ⟨by have := HK1.out; have := HJ1.out; first | omega | exact Nat.le_refl _⟩, ⟨by (with_reducible repeat (first | apply Kd.R_alloc | apply Kd.R_drewN | apply Kd.R_drew)); exact Kd.R_mono (Kd.R_far (p := ⟨gb164, 3, none⟩) (Kd.R_far (p := ⟨gb164, 2, none⟩) (Kd.R_far (p := ⟨gb164, 1, none⟩) (Kd.R_far (p := ⟨gb164, 0, none⟩) (Kd.R_types HO156.out BK164.out (by decide)) (fun _ hk => hk.2) (.int .i64 0)) (fun _ hk => hk.2) (.int .i64 0)) (fun _ hk => hk.2) (.slice none 0 0)) (fun _ hk => hk.2) (.int .i64 0)) (fun _ hk => (by simp [Value.ownBlock]))⟩, ⟨by first | exact Kd.R_nil _ _ _ _ _ | exact Kd.N_nil _ _ _ _ _ | exact Kd.V_nil _ _ _ _ _ | exact Kd.Q_nil _ _ _ _ _ | exact Kd.S_nil _ _ _ _ _⟩, ⟨by (with_reducible repeat (first | refine blk_drewN ?_ _ | refine blk_drew ?_ | refine blk_alloc ?_ _)); refine blk_far ?_ NB151_164.out _; (with_reducible repeat (first | refine blk_drewN ?_ _ | refine blk_drew ?_ | refine blk_alloc ?_ _)); refine blk_far ?_ NB151_164.out _; (with_reducible repeat (first | refine blk_drewN ?_ _ | refine blk_drew ?_ | refine blk_alloc ?_ _)); refine blk_far ?_ NB151_164.out _; (with_reducible repeat (first | refine blk_drewN ?_ _ | refine blk_drew ?_ | refine blk_alloc ?_ _)); refine blk_far ?_ NB151_164.out _; (with_reducible repeat (first | refine blk_drewN ?_ _ | refine blk_drew ?_ | refine blk_alloc ?_ _)); exact BK151.out⟩, ⟨by (with_reducible repeat (first | refine blk_drewN ?_ _ | refine blk_drew ?_ | refine blk_alloc ?_ _)); refine blk_far ?_ NB160_164.out _; (with_reducible repeat (first | refine blk_drewN ?_ _ | refine blk_drew ?_ | refine blk_alloc ?_ _)); refine blk_far ?_ NB160_164.out _; (with_reducible repeat (first | refine blk_drewN ?_ _ | refine blk_drew ?_ | refine blk_alloc ?_ _)); refine blk_far ?_ NB160_164.out _; (with_reducible repeat (first | refine blk_drewN ?_ _ | refine blk_drew ?_ | refine blk_alloc ?_ _)); refine blk_far ?_ NB160_164.out _; (with_reducible repeat (first | refine blk_drewN ?_ _ | refine blk_drew ?_ | refine blk_alloc ?_ _)); exact BK160.out⟩, ⟨by (with_reducible repeat (first | refine blk_drewN ?_ _ | refine blk_drew ?_ | refine blk_alloc ?_ _)); refine blk_put (cs := #[.int .i64 0, .int .i64 0, .slice none 0 0, .int .i64 0]) ?_ 3 _ rfl; (with_reducible repeat (first | refine blk_drewN ?_ _ | refine blk_drew ?_ | refine blk_alloc ?_ _)); refine blk_put (cs := #[.int .i64 0, .int .i64 0, .slice none 0 0, .int .i64 0]) ?_ 2 _ rfl; (with_reducible repeat (first | refine blk_drewN ?_ _ | refine blk_drew ?_ | refine blk_alloc ?_ _)); refine blk_put (cs := #[.int .i64 0, .int .i64 0, .slice none 0 0, .int .i64 0]) ?_ 1 _ rfl; (with_reducible repeat (first | refine blk_drewN ?_ _ | refine blk_drew ?_ | refine blk_alloc ?_ _)); refine blk_put (cs := #[.int .i64 0, .int .i64 0, .slice none 0 0, .int .i64 0]) ?_ 0 _ rfl; (with_reducible repeat (first | refine blk_drewN ?_ _ | refine blk_drew ?_ | refine blk_alloc ?_ _)); exact BK164.out⟩, ⟨by repeat (first | (with_reducible first | exact HB.out | apply below_alloc | apply pw_below_drewN | apply below_drew1 | refine below_set ?_ GE151.out | refine below_set ?_ GE160.out | refine below_set ?_ GE164.out) | exact HB.out)⟩⟩
                  case rest =>
                    clear HC10
                    try clear c1
                    try clear p1
                    try clear q1
                    try clear hx1
                    try clear c2
                    try clear p2
                    try clear c3
                    try clear c3b0
                    try clear c4
                    try clear c5
                    try clear c5b0
                    try clear c6
                    try clear c6b0
                    try clear p6
                    try clear c7
                    try clear c9
                    try clear c10
                    try clear c15
                    try clear p15
                    try clear q15
                    try clear hx15
                    try clear c21
                    try clear c22
                    try clear c25
                    try clear c25b0
                    try clear c25b1
                    try clear c26
                    try clear c27
                    try clear c29
                    try clear c31
                    try clear c31b0
                    try clear c31b1
                    try clear c32
                    try clear c33
                    try clear c38
                    try clear c40
                    try clear c40b0
                    try clear c40b1
                    try clear c41
                    try clear c42
                    try clear c47
                    try clear c49
                    try clear c49b0
                    try clear c49b1
                    try clear c50
                    try clear c51
                    try clear c53
                    try clear c55
                    try clear c55b0
                    try clear c55b1
                    try clear c56
                    try clear c57
                    try clear c59
                    try clear c61
                    try clear c61b0
                    try clear c61b1
                    try clear c62
                    try clear c63
                    try clear p64
                    try clear c68
                    try clear c70
                    try clear c70b0
                    try clear c70b1
                    try clear c71
                    try clear c72
                    try clear c77
                    try clear hcz12_0
                    try clear hcz12_1
                    try clear hcz12_2
                    try clear hcz12_3
                    try clear hcz12_4
                    try clear hcz12_5
                    try clear hcz12_6
                    try clear hcz12_7
                    try clear hcz12_8
                    try clear hcz16_0
                    try clear hcz16_1
                    try clear hcz16_2
                    try clear hcz16_3
                    try clear hcz18_0
                    try clear hcz18_1
                    try clear hcz18_2
                    try clear hcz18_3
                    try clear hcz18_4
                    try clear hcz18_5
                    try clear hcz18_6
                    try clear hcz18_7
                    try clear hcz18_8
                    try clear hcz23_0
                    try clear hcz23_1
                    try clear hcz23_2
                    try clear hcz23_3
                    try clear hcz24_0
                    try clear hcz24_1
                    try clear hcz24_2
                    try clear hcz24_3
                    try clear hcz24_4
                    try clear hcz24_5
                    try clear hcz24_6
                    try clear hcz24_7
                    try clear hcz24_8
                    try clear hcz28_0
                    try clear hcz28_1
                    try clear hcz28_2
                    try clear hcz28_3
                    try clear hcz28_4
                    try clear hcz28_5
                    try clear hcz28_6
                    try clear hcz28_7
                    try clear hcz28_8
                    try clear hcz30_0
                    try clear hcz30_1
                    try clear hcz30_2
                    try clear hcz30_3
                    try clear hcz34_0
                    try clear hcz34_1
                    try clear hcz34_2
                    try clear hcz34_3
                    try clear hcz34_4
                    try clear hcz34_5
                    try clear hcz34_6
                    try clear hcz34_7
                    try clear hcz34_8
                    try clear hcz39_0
                    try clear hcz39_1
                    try clear hcz39_2
                    try clear hcz39_3
                    try clear hcz43_0
                    try clear hcz43_1
                    try clear hcz43_2
                    try clear hcz43_3
                    try clear hcz43_4
                    try clear hcz43_5
                    try clear hcz43_6
                    try clear hcz43_7
                    try clear hcz43_8
                    try clear hcz48_0
                    try clear hcz48_1
                    try clear hcz48_2
                    try clear hcz48_3
                    try clear hcz52_0
                    try clear hcz52_1
                    try clear hcz52_2
                    try clear hcz52_3
                    try clear hcz52_4
                    try clear hcz52_5
                    try clear hcz52_6
                    try clear hcz52_7
                    try clear hcz52_8
                    try clear hcz54_0
                    try clear hcz54_1
                    try clear hcz54_2
                    try clear hcz54_3
                    try clear hcz58_0
                    try clear hcz58_1
                    try clear hcz58_2
                    try clear hcz58_3
                    try clear hcz58_4
                    try clear hcz58_5
                    try clear hcz58_6
                    try clear hcz58_7
                    try clear hcz58_8
                    try clear hcz60_0
                    try clear hcz60_1
                    try clear hcz60_2
                    try clear hcz60_3
                    try clear hcz64_0
                    try clear hcz64_1
                    try clear hcz64_2
                    try clear hcz64_3
                    try clear hcz64_4
                    try clear hcz64_5
                    try clear hcz64_6
                    try clear hcz64_7
                    try clear hcz64_8
                    try clear hcz69_0
                    try clear hcz69_1
                    try clear hcz69_2
                    try clear hcz69_3
                    try clear hcz73_0
                    try clear hcz73_1
                    try clear hcz73_2
                    try clear hcz73_3
                    try clear hcz73_4
                    try clear hcz73_5
                    try clear hcz73_6
                    try clear hcz73_7
                    try clear hcz73_8
                    try clear hcz78_0
                    try clear hcz78_1
                    try clear hcz78_2
                    try clear hcz78_3
                    try clear hfz12_0
                    try clear hfz12_1
                    try clear hfz12_2
                    try clear hfz12_3
                    try clear hfz12_4
                    try clear hfz12_5
                    try clear hfz12_6
                    try clear hfz12_7
                    try clear hfz12_8
                    try clear hfz16_0
                    try clear hfz16_1
                    try clear hfz16_2
                    try clear hfz16_3
                    try clear hfz18_0
                    try clear hfz18_1
                    try clear hfz18_2
                    try clear hfz18_3
                    try clear hfz18_4
                    try clear hfz18_5
                    try clear hfz18_6
                    try clear hfz18_7
                    try clear hfz18_8
                    try clear hfz23_0
                    try clear hfz23_1
                    try clear hfz23_2
                    try clear hfz23_3
                    try clear hfz24_0
                    try clear hfz24_1
                    try clear hfz24_2
                    try clear hfz24_3
                    try clear hfz24_4
                    try clear hfz24_5
                    try clear hfz24_6
                    try clear hfz24_7
                    try clear hfz24_8
                    try clear hfz28_0
                    try clear hfz28_1
                    try clear hfz28_2
                    try clear hfz28_3
                    try clear hfz28_4
                    try clear hfz28_5
                    try clear hfz28_6
                    try clear hfz28_7
                    try clear hfz28_8
                    try clear hfz30_0
                    try clear hfz30_1
                    try clear hfz30_2
                    try clear hfz30_3
                    try clear hfz34_0
                    try clear hfz34_1
                    try clear hfz34_2
                    try clear hfz34_3
                    try clear hfz34_4
                    try clear hfz34_5
                    try clear hfz34_6
                    try clear hfz34_7
                    try clear hfz34_8
                    try clear hfz39_0
                    try clear hfz39_1
                    try clear hfz39_2
                    try clear hfz39_3
                    try clear hfz43_0
                    try clear hfz43_1
                    try clear hfz43_2
                    try clear hfz43_3
                    try clear hfz43_4
                    try clear hfz43_5
                    try clear hfz43_6
                    try clear hfz43_7
                    try clear hfz43_8
                    try clear hfz48_0
                    try clear hfz48_1
                    try clear hfz48_2
                    try clear hfz48_3
                    try clear hfz52_0
                    try clear hfz52_1
                    try clear hfz52_2
                    try clear hfz52_3
                    try clear hfz52_4
                    try clear hfz52_5
                    try clear hfz52_6
                    try clear hfz52_7
                    try clear hfz52_8
                    try clear hfz54_0
                    try clear hfz54_1
                    try clear hfz54_2
                    try clear hfz54_3
                    try clear hfz58_0
                    try clear hfz58_1
                    try clear hfz58_2
                    try clear hfz58_3
                    try clear hfz58_4
                    try clear hfz58_5
                    try clear hfz58_6
                    try clear hfz58_7
                    try clear hfz58_8
                    try clear hfz60_0
                    try clear hfz60_1
                    try clear hfz60_2
                    try clear hfz60_3
                    try clear hfz64_0
                    try clear hfz64_1
                    try clear hfz64_2
                    try clear hfz64_3
                    try clear hfz64_4
                    try clear hfz64_5
                    try clear hfz64_6
                    try clear hfz64_7
                    try clear hfz64_8
                    try clear hfz69_0
                    try clear hfz69_1
                    try clear hfz69_2
                    try clear hfz69_3
                    try clear hfz73_0
                    try clear hfz73_1
                    try clear hfz73_2
                    try clear hfz73_3
                    try clear hfz73_4
                    try clear hfz73_5
                    try clear hfz73_6
                    try clear hfz73_7
                    try clear hfz73_8
                    try clear hfz78_0
                    try clear hfz78_1
                    try clear hfz78_2
                    try clear hfz78_3
                    try clear hx150_0
                    try clear hx150_1
                    try clear hx150_10
                    try clear hx150_11
                    try clear hx150_12
                    try clear hx150_2
                    try clear hx150_3
                    try clear hx150_4
                    try clear hx150_5
                    try clear hx150_6
                    try clear hx150_7
                    try clear hx150_8
                    try clear hx150_9
                    try clear p150
                    try clear p2
                    try clear q150
                    obtain ⟨kq, x165000_9, x165001_9, x165002_9, x165003_9, u165002, HA, HJ9, HO_161002, HO_165002, BK151, BK160, BK164, HB⟩ := hcut
                    cases kq with
                    | zero => exact absurd HA.out (by simp [gimballaw9_DrvNexts.j2])
                    | succ kj9 =>
                      have H := HA.out
                      clear HA
                      simp only [gimballaw9_DrvNexts.j2] at H
                      have HC79 := Aside0.mk H
                      clear H
                      go_upto_region 25 with (fail)
                      go_cut [9] (fun v9 wc => ∃ (kq : Nat) (x9_78 : Bool), v9 = .bool x9_78 ∧ Aside0 (gimballaw9_DrvNexts.j3 kq l0 x3_1 t158 t159 x9_78 t152 t153 t154 t157 x165000_9 x165001_9 x165002_9 x165003_9 = some r) ∧ Aside0 (kq ≤ kj9) ∧ Aside0 (Kd.R (Kd.int .u8) 5 wc w.heap.size (fun k_ => some k_ ≠ (u165002 : Value).ownBlock) (.slice Ao17 t154.length co17) t154) ∧ Aside0 (Kd.R (Kd.int .u8) 5 wc w.heap.size (fun k_ => some k_ ≠ ((.slice Ao17 t154.length co17) : Value).ownBlock) u165002 x165002_9) ∧ Aside0 (wc.heap[gb151]? = some (.cells #[.int .i64 ((rd_T29 l0 x3_1).f0.f0), .int .i64 ((rd_T29 l0 x3_1).f0.f1), .bool ((rd_T29 l0 x3_1).f0.f2), .int .i64 ((rd_T29 l0 x3_1).f0.f3), .int .i64 ((rd_T29 l0 x3_1).f0.f4), .int .i64 ((rd_T29 l0 x3_1).f0.f5), .bool ((rd_T29 l0 x3_1).f0.f6), .int .i64 ((rd_T29 l0 x3_1).f0.f7), .int .i64 ((rd_T29 l0 x3_1).f0.f8)] 24 (0, 0))) ∧ Aside0 (wc.heap[gb160]? = some (.cells #[.int .i64 t152, .int .i64 t153, (.slice Ao17 t154.length co17), .int .i64 t157] 31 (0, 0))) ∧ Aside0 (wc.heap[gb164]? = some (.cells #[.int .i64 x165000_9, .int .i64 x165001_9, u165002, .int .i64 x165003_9] 31 (0, 0))) ∧ Aside0 (Below w.heap.size w wc))
                      case first =>
                        have H := HC79.out
                        clear HC79
                        by_cases c80 : ((rd_T29 l0 x3_1).f0.f4) = 0
                        · rw [if_pos c80] at H
                          have c80b0 : (((rd_T29 l0 x3_1).f0.f4) == 0) = true := beq_iff_eq.mpr c80
                          have c80b1 : (((rd_T29 l0 x3_1).f0.f4) != 0) = false := bne_eq_false_iff_eq.mpr c80
                          clear c80
                          (first | rw [c80b0] | (simp only [i64_w, i32_w]; rw [c80b0]) | skip)
                          have H' := Aside0.mk H
                          clear H
                          have hnb81 := NB151_160.out
                          have hnc81 := NB160_151.out
                          have hnb82 := NB151_164.out
                          have hnc82 := NB164_151.out
                          have hcz83_0 : wc.cell? ⟨gb151, 0, none⟩ = some (.int .i64 ((rd_T29 l0 x3_1).f0.f0)) := (blk_cell BK151.out 0).trans rfl
                          have hcz83_1 : wc.cell? ⟨gb151, 1, none⟩ = some (.int .i64 ((rd_T29 l0 x3_1).f0.f1)) := (blk_cell BK151.out 1).trans rfl
                          have hcz83_2 : wc.cell? ⟨gb151, 2, none⟩ = some (.bool ((rd_T29 l0 x3_1).f0.f2)) := (blk_cell BK151.out 2).trans rfl
                          have hcz83_3 : wc.cell? ⟨gb151, 3, none⟩ = some (.int .i64 ((rd_T29 l0 x3_1).f0.f3)) := (blk_cell BK151.out 3).trans rfl
                          have hcz83_4 : wc.cell? ⟨gb151, 4, none⟩ = some (.int .i64 ((rd_T29 l0 x3_1).f0.f4)) := (blk_cell BK151.out 4).trans rfl
                          have hcz83_5 : wc.cell? ⟨gb151, 5, none⟩ = some (.int .i64 ((rd_T29 l0 x3_1).f0.f5)) := (blk_cell BK151.out 5).trans rfl
                          have hcz83_6 : wc.cell? ⟨gb151, 6, none⟩ = some (.bool ((rd_T29 l0 x3_1).f0.f6)) := (blk_cell BK151.out 6).trans rfl
                          have hcz83_7 : wc.cell? ⟨gb151, 7, none⟩ = some (.int .i64 ((rd_T29 l0 x3_1).f0.f7)) := (blk_cell BK151.out 7).trans rfl
                          have hcz83_8 : wc.cell? ⟨gb151, 8, none⟩ = some (.int .i64 ((rd_T29 l0 x3_1).f0.f8)) := (blk_cell BK151.out 8).trans rfl
                          have hfz83_0 := blk_frozen BK151.out 0
                          have hfz83_1 := blk_frozen BK151.out 1
                          have hfz83_2 := blk_frozen BK151.out 2
                          have hfz83_3 := blk_frozen BK151.out 3
                          have hfz83_4 := blk_frozen BK151.out 4
                          have hfz83_5 := blk_frozen BK151.out 5
                          have hfz83_6 := blk_frozen BK151.out 6
                          have hfz83_7 := blk_frozen BK151.out 7
                          have hfz83_8 := blk_frozen BK151.out 8
                          go_wp2
                          go_meet
                          case rel => exact ⟨_, (true), (by first | rfl | (simp; done) | (simp [*]; done)), H', ⟨by have := HK1.out; have := HJ1.out; have := HJ9.out; first | omega | exact Nat.le_refl _⟩, ⟨by (with_reducible repeat (first | apply Kd.R_alloc | apply Kd.R_drewN | apply Kd.R_drew)); exact HO_161002.out⟩, ⟨by (with_reducible repeat (first | apply Kd.R_alloc | apply Kd.R_drewN | apply Kd.R_drew)); exact HO_165002.out⟩, ⟨by (with_reducible repeat (first | refine blk_drewN ?_ _ | refine blk_drew ?_ | refine blk_alloc ?_ _)); exact BK151.out⟩, ⟨by (with_reducible repeat (first | refine blk_drewN ?_ _ | refine blk_drew ?_ | refine blk_alloc ?_ _)); exact BK160.out⟩, ⟨by (with_reducible repeat (first | refine blk_drewN ?_ _ | refine blk_drew ?_ | refine blk_alloc ?_ _)); exact BK164.out⟩, ⟨by repeat (first | (with_reducible first | exact HB.out | apply below_alloc | apply pw_below_drewN | apply below_drew1 | refine below_set ?_ GE151.out | refine below_set ?_ GE160.out | refine below_set ?_ GE164.out) | exact HB.out)⟩⟩
                        · rw [if_neg c80] at H
                          have c80b0 : (((rd_T29 l0 x3_1).f0.f4) == 0) = false := beq_eq_false_iff_ne.mpr c80
                          have c80b1 : (((rd_T29 l0 x3_1).f0.f4) != 0) = true := bne_iff_ne.mpr c80
                          (first | rw [c80b0] | (simp only [i64_w, i32_w]; rw [c80b0]) | skip)
                          have H' := Aside0.mk H
                          clear H
                          have hnb84 := NB151_160.out
                          have hnc84 := NB160_151.out
                          have hnb85 := NB151_164.out
                          have hnc85 := NB164_151.out
                          have hcz86_0 : wc.cell? ⟨gb151, 0, none⟩ = some (.int .i64 ((rd_T29 l0 x3_1).f0.f0)) := (blk_cell BK151.out 0).trans rfl
                          have hcz86_1 : wc.cell? ⟨gb151, 1, none⟩ = some (.int .i64 ((rd_T29 l0 x3_1).f0.f1)) := (blk_cell BK151.out 1).trans rfl
                          have hcz86_2 : wc.cell? ⟨gb151, 2, none⟩ = some (.bool ((rd_T29 l0 x3_1).f0.f2)) := (blk_cell BK151.out 2).trans rfl
                          have hcz86_3 : wc.cell? ⟨gb151, 3, none⟩ = some (.int .i64 ((rd_T29 l0 x3_1).f0.f3)) := (blk_cell BK151.out 3).trans rfl
                          have hcz86_4 : wc.cell? ⟨gb151, 4, none⟩ = some (.int .i64 ((rd_T29 l0 x3_1).f0.f4)) := (blk_cell BK151.out 4).trans rfl
                          have hcz86_5 : wc.cell? ⟨gb151, 5, none⟩ = some (.int .i64 ((rd_T29 l0 x3_1).f0.f5)) := (blk_cell BK151.out 5).trans rfl
                          have hcz86_6 : wc.cell? ⟨gb151, 6, none⟩ = some (.bool ((rd_T29 l0 x3_1).f0.f6)) := (blk_cell BK151.out 6).trans rfl
                          have hcz86_7 : wc.cell? ⟨gb151, 7, none⟩ = some (.int .i64 ((rd_T29 l0 x3_1).f0.f7)) := (blk_cell BK151.out 7).trans rfl
                          have hcz86_8 : wc.cell? ⟨gb151, 8, none⟩ = some (.int .i64 ((rd_T29 l0 x3_1).f0.f8)) := (blk_cell BK151.out 8).trans rfl
                          have hfz86_0 := blk_frozen BK151.out 0
                          have hfz86_1 := blk_frozen BK151.out 1
                          have hfz86_2 := blk_frozen BK151.out 2
                          have hfz86_3 := blk_frozen BK151.out 3
                          have hfz86_4 := blk_frozen BK151.out 4
                          have hfz86_5 := blk_frozen BK151.out 5
                          have hfz86_6 := blk_frozen BK151.out 6
                          have hfz86_7 := blk_frozen BK151.out 7
                          have hfz86_8 := blk_frozen BK151.out 8
                          go_wp2
                          go_meet
                          case rel => exact ⟨_, ((((rd_T29 l0 x3_1).f0.f4) == 8)), (by first | rfl | (simp; done) | (simp [*]; done)), H', ⟨by have := HK1.out; have := HJ1.out; have := HJ9.out; first | omega | exact Nat.le_refl _⟩, ⟨by (with_reducible repeat (first | apply Kd.R_alloc | apply Kd.R_drewN | apply Kd.R_drew)); exact HO_161002.out⟩, ⟨by (with_reducible repeat (first | apply Kd.R_alloc | apply Kd.R_drewN | apply Kd.R_drew)); exact HO_165002.out⟩, ⟨by (with_reducible repeat (first | refine blk_drewN ?_ _ | refine blk_drew ?_ | refine blk_alloc ?_ _)); exact BK151.out⟩, ⟨by (with_reducible repeat (first | refine blk_drewN ?_ _ | refine blk_drew ?_ | refine blk_alloc ?_ _)); exact BK160.out⟩, ⟨by (with_reducible repeat (first | refine blk_drewN ?_ _ | refine blk_drew ?_ | refine blk_alloc ?_ _)); exact BK164.out⟩, ⟨by repeat (first | (with_reducible first | exact HB.out | apply below_alloc | apply pw_below_drewN | apply below_drew1 | refine below_set ?_ GE151.out | refine below_set ?_ GE160.out | refine below_set ?_ GE164.out) | exact HB.out)⟩⟩
                      case rest =>
                        clear HC79
                        try clear c1
                        try clear p1
                        try clear q1
                        try clear hx1
                        try clear c2
                        try clear p2
                        try clear c3
                        try clear c3b0
                        try clear c4
                        try clear c5
                        try clear c5b0
                        try clear c6
                        try clear c6b0
                        try clear p6
                        try clear c7
                        try clear c8
                        try clear c9
                        try clear c10
                        try clear c15
                        try clear p15
                        try clear q15
                        try clear hx15
                        try clear c21
                        try clear c22
                        try clear c25
                        try clear c25b0
                        try clear c25b1
                        try clear c26
                        try clear c27
                        try clear c29
                        try clear c31
                        try clear c31b0
                        try clear c31b1
                        try clear c32
                        try clear c33
                        try clear c38
                        try clear c40
                        try clear c40b0
                        try clear c40b1
                        try clear c41
                        try clear c42
                        try clear c47
                        try clear c49
                        try clear c49b0
                        try clear c49b1
                        try clear c50
                        try clear c51
                        try clear c53
                        try clear c55
                        try clear c55b0
                        try clear c55b1
                        try clear c56
                        try clear c57
                        try clear c59
                        try clear c61
                        try clear c61b0
                        try clear c61b1
                        try clear c62
                        try clear c63
                        try clear p64
                        try clear c68
                        try clear c70
                        try clear c70b0
                        try clear c70b1
                        try clear c71
                        try clear c72
                        try clear c77
                        try clear c80
                        try clear c80b0
                        try clear c80b1
                        try clear c81
                        try clear c82
                        try clear c84
                        try clear c85
                        try clear hcz12_0
                        try clear hcz12_1
                        try clear hcz12_2
                        try clear hcz12_3
                        try clear hcz12_4
                        try clear hcz12_5
                        try clear hcz12_6
                        try clear hcz12_7
                        try clear hcz12_8
                        try clear hcz16_0
                        try clear hcz16_1
                        try clear hcz16_2
                        try clear hcz16_3
                        try clear hcz18_0
                        try clear hcz18_1
                        try clear hcz18_2
                        try clear hcz18_3
                        try clear hcz18_4
                        try clear hcz18_5
                        try clear hcz18_6
                        try clear hcz18_7
                        try clear hcz18_8
                        try clear hcz23_0
                        try clear hcz23_1
                        try clear hcz23_2
                        try clear hcz23_3
                        try clear hcz24_0
                        try clear hcz24_1
                        try clear hcz24_2
                        try clear hcz24_3
                        try clear hcz24_4
                        try clear hcz24_5
                        try clear hcz24_6
                        try clear hcz24_7
                        try clear hcz24_8
                        try clear hcz28_0
                        try clear hcz28_1
                        try clear hcz28_2
                        try clear hcz28_3
                        try clear hcz28_4
                        try clear hcz28_5
                        try clear hcz28_6
                        try clear hcz28_7
                        try clear hcz28_8
                        try clear hcz30_0
                        try clear hcz30_1
                        try clear hcz30_2
                        try clear hcz30_3
                        try clear hcz34_0
                        try clear hcz34_1
                        try clear hcz34_2
                        try clear hcz34_3
                        try clear hcz34_4
                        try clear hcz34_5
                        try clear hcz34_6
                        try clear hcz34_7
                        try clear hcz34_8
                        try clear hcz39_0
                        try clear hcz39_1
                        try clear hcz39_2
                        try clear hcz39_3
                        try clear hcz43_0
                        try clear hcz43_1
                        try clear hcz43_2
                        try clear hcz43_3
                        try clear hcz43_4
                        try clear hcz43_5
                        try clear hcz43_6
                        try clear hcz43_7
                        try clear hcz43_8
                        try clear hcz48_0
                        try clear hcz48_1
                        try clear hcz48_2
                        try clear hcz48_3
                        try clear hcz52_0
                        try clear hcz52_1
                        try clear hcz52_2
                        try clear hcz52_3
                        try clear hcz52_4
                        try clear hcz52_5
                        try clear hcz52_6
                        try clear hcz52_7
                        try clear hcz52_8
                        try clear hcz54_0
                        try clear hcz54_1
                        try clear hcz54_2
                        try clear hcz54_3
                        try clear hcz58_0
                        try clear hcz58_1
                        try clear hcz58_2
                        try clear hcz58_3
                        try clear hcz58_4
                        try clear hcz58_5
                        try clear hcz58_6
                        try clear hcz58_7
                        try clear hcz58_8
                        try clear hcz60_0
                        try clear hcz60_1
                        try clear hcz60_2
                        try clear hcz60_3
                        try clear hcz64_0
                        try clear hcz64_1
                        try clear hcz64_2
                        try clear hcz64_3
                        try clear hcz64_4
                        try clear hcz64_5
                        try clear hcz64_6
                        try clear hcz64_7
                        try clear hcz64_8
                        try clear hcz69_0
                        try clear hcz69_1
                        try clear hcz69_2
                        try clear hcz69_3
                        try clear hcz73_0
                        try clear hcz73_1
                        try clear hcz73_2
                        try clear hcz73_3
                        try clear hcz73_4
                        try clear hcz73_5
                        try clear hcz73_6
                        try clear hcz73_7
                        try clear hcz73_8
                        try clear hcz78_0
                        try clear hcz78_1
                        try clear hcz78_2
                        try clear hcz78_3
                        try clear hcz83_0
                        try clear hcz83_1
                        try clear hcz83_2
                        try clear hcz83_3
                        try clear hcz83_4
                        try clear hcz83_5
                        try clear hcz83_6
                        try clear hcz83_7
                        try clear hcz83_8
                        try clear hcz86_0
                        try clear hcz86_1
                        try clear hcz86_2
                        try clear hcz86_3
                        try clear hcz86_4
                        try clear hcz86_5
                        try clear hcz86_6
                        try clear hcz86_7
                        try clear hcz86_8
                        try clear hfz12_0
                        try clear hfz12_1
                        try clear hfz12_2
                        try clear hfz12_3
                        try clear hfz12_4
                        try clear hfz12_5
                        try clear hfz12_6
                        try clear hfz12_7
                        try clear hfz12_8
                        try clear hfz16_0
                        try clear hfz16_1
                        try clear hfz16_2
                        try clear hfz16_3
                        try clear hfz18_0
                        try clear hfz18_1
                        try clear hfz18_2
                        try clear hfz18_3
                        try clear hfz18_4
                        try clear hfz18_5
                        try clear hfz18_6
                        try clear hfz18_7
                        try clear hfz18_8
                        try clear hfz23_0
                        try clear hfz23_1
                        try clear hfz23_2
                        try clear hfz23_3
                        try clear hfz24_0
                        try clear hfz24_1
                        try clear hfz24_2
                        try clear hfz24_3
                        try clear hfz24_4
                        try clear hfz24_5
                        try clear hfz24_6
                        try clear hfz24_7
                        try clear hfz24_8
                        try clear hfz28_0
                        try clear hfz28_1
                        try clear hfz28_2
                        try clear hfz28_3
                        try clear hfz28_4
                        try clear hfz28_5
                        try clear hfz28_6
                        try clear hfz28_7
                        try clear hfz28_8
                        try clear hfz30_0
                        try clear hfz30_1
                        try clear hfz30_2
                        try clear hfz30_3
                        try clear hfz34_0
                        try clear hfz34_1
                        try clear hfz34_2
                        try clear hfz34_3
                        try clear hfz34_4
                        try clear hfz34_5
                        try clear hfz34_6
                        try clear hfz34_7
                        try clear hfz34_8
                        try clear hfz39_0
                        try clear hfz39_1
                        try clear hfz39_2
                        try clear hfz39_3
                        try clear hfz43_0
                        try clear hfz43_1
                        try clear hfz43_2
                        try clear hfz43_3
                        try clear hfz43_4
                        try clear hfz43_5
                        try clear hfz43_6
                        try clear hfz43_7
                        try clear hfz43_8
                        try clear hfz48_0
                        try clear hfz48_1
                        try clear hfz48_2
                        try clear hfz48_3
                        try clear hfz52_0
                        try clear hfz52_1
                        try clear hfz52_2
                        try clear hfz52_3
                        try clear hfz52_4
                        try clear hfz52_5
                        try clear hfz52_6
                        try clear hfz52_7
                        try clear hfz52_8
                        try clear hfz54_0
                        try clear hfz54_1
                        try clear hfz54_2
                        try clear hfz54_3
                        try clear hfz58_0
                        try clear hfz58_1
                        try clear hfz58_2
                        try clear hfz58_3
                        try clear hfz58_4
                        try clear hfz58_5
                        try clear hfz58_6
                        try clear hfz58_7
                        try clear hfz58_8
                        try clear hfz60_0
                        try clear hfz60_1
                        try clear hfz60_2
                        try clear hfz60_3
                        try clear hfz64_0
                        try clear hfz64_1
                        try clear hfz64_2
                        try clear hfz64_3
                        try clear hfz64_4
                        try clear hfz64_5
                        try clear hfz64_6
                        try clear hfz64_7
                        try clear hfz64_8
                        try clear hfz69_0
                        try clear hfz69_1
                        try clear hfz69_2
                        try clear hfz69_3
                        try clear hfz73_0
                        try clear hfz73_1
                        try clear hfz73_2
                        try clear hfz73_3
                        try clear hfz73_4
                        try clear hfz73_5
                        try clear hfz73_6
                        try clear hfz73_7
                        try clear hfz73_8
                        try clear hfz78_0
                        try clear hfz78_1
                        try clear hfz78_2
                        try clear hfz78_3
                        try clear hfz83_0
                        try clear hfz83_1
                        try clear hfz83_2
                        try clear hfz83_3
                        try clear hfz83_4
                        try clear hfz83_5
                        try clear hfz83_6
                        try clear hfz83_7
                        try clear hfz83_8
                        try clear hfz86_0
                        try clear hfz86_1
                        try clear hfz86_2
                        try clear hfz86_3
                        try clear hfz86_4
                        try clear hfz86_5
                        try clear hfz86_6
                        try clear hfz86_7
                        try clear hfz86_8
                        try clear hx150_0
                        try clear hx150_1
                        try clear hx150_10
                        try clear hx150_11
                        try clear hx150_12
                        try clear hx150_2
                        try clear hx150_3
                        try clear hx150_4
                        try clear hx150_5
                        try clear hx150_6
                        try clear hx150_7
                        try clear hx150_8
                        try clear hx150_9
                        try clear p1
                        try clear p15
                        try clear p150
                        try clear p2
                        try clear p6
                        try clear p64
                        try clear q1
                        try clear q15
                        try clear q150
                        obtain ⟨kq, x9_78, rfl, HA, HJ78, HO_161002, HO_165002, BK151, BK160, BK164, HB⟩ := hcut
                        cases kq with
                        | zero => exact absurd HA.out (by simp [gimballaw9_DrvNexts.j3])
                        | succ kj78 =>
                          have H := HA.out
                          clear HA
                          simp only [gimballaw9_DrvNexts.j3] at H
                          replace H := Option.bind_eq_some_iff.mp H
                          obtain ⟨t177, A870, H⟩ := H
                          replace H : (if t177 = 0 then (if (t158 == x9_78) = true then (some false) else ((gimbalref0_EqTx.f kj78 t152 t153 t154 t157 x165000_9 x165001_9 x165002_9 x165003_9).bind fun t178 => (if t178 = true then (gimballaw9_DrvNexts.l0 kj78 l0 (wrap64 (x3_1 + 1))) else (some false)))) else (some false)) = some r := H
                          have A87 := Aside0.mk A870
                          clear A870
                          by_cases c88 : t177 = 0
                          · rw [if_pos c88] at H
                            have c88b0 : (t177 == 0) = true := beq_iff_eq.mpr c88
                            have c88b1 : (t177 != 0) = false := bne_eq_false_iff_eq.mpr c88
                            clear c88
                            by_cases c89 : (t158 == x9_78) = true
                            · rw [if_pos c89] at H
                              have c89b0 : (t158 == x9_78) = true := c89
                              (try (have c89b1 : decide (t158 = x9_78) = true := by simpa using c89))
                              (try (have c89b2 : (t158 == x9_78) = true := by simpa using c89))
                              clear c89
                              obtain rfl := Option.some.inj H
                              go_wp2_with (first | ((with_reducible refine gate_callee (f := 11) rfl ?_); refine goesL_ (some 103) rfl rfl Try.func11 (by kernel_rfl) rfl #[.int .i64 t159] rfl (by (try simp only [List.map_toArray, List.map_cons, List.map_nil]); first | done | rfl | (simp only [List.length_drop, List.length_take]; rfl)) ?_; (with_reducible refine (gimballaw9_num.calls t159 t177 _ A87.out).mono ?_); rintro e w' ⟨rfl, ⟨nd, rfl⟩⟩; refine ⟨_, rfl, ?_⟩))
                              go_ret
                              exact ⟨by first | rfl | (simp [errW_none, errW_some] <;> rfl) | (simp [*, errW_none, errW_some] <;> rfl), by repeat (first | (with_reducible first | exact HB.out | apply below_alloc | apply pw_below_drewN | apply below_drew1 | refine below_set ?_ GE151.out | refine below_set ?_ GE160.out | refine below_set ?_ GE164.out) | exact HB.out)⟩
                            · rw [if_neg c89] at H
                              have c89b0 : (t158 == x9_78) = false := by simpa using c89
                              (try (have c89b1 : decide (t158 = x9_78) = false := by simpa using c89))
                              (try (have c89b2 : (t158 == x9_78) = false := by simpa using c89))
                              (try (have c89b3 : ¬ (t158 = x9_78) := by simpa using c89))
                              clear c89
                              replace H := Option.bind_eq_some_iff.mp H
                              obtain ⟨t178, A900, H⟩ := H
                              replace H : (if t178 = true then (gimballaw9_DrvNexts.l0 kj78 l0 (wrap64 (x3_1 + 1))) else (some false)) = some r := H
                              have A90 := Aside0.mk A900
                              clear A900
                              by_cases c91 : t178 = true
                              · subst c91
                                have H1 : (gimballaw9_DrvNexts.l0 kj78 l0 (wrap64 (x3_1 + 1))) = some r := by rw [if_pos rfl] at H; exact H
                                clear H
                                have H := H1
                                clear H1
                                have H' := Aside0.mk H
                                clear H
                                go_wp2_with (first | ((with_reducible refine gate_callee (f := 11) rfl ?_); refine goesL_ (some 103) rfl rfl Try.func11 (by kernel_rfl) rfl #[.int .i64 t159] rfl (by (try simp only [List.map_toArray, List.map_cons, List.map_nil]); first | done | rfl | (simp only [List.length_drop, List.length_take]; rfl)) ?_; (with_reducible refine (gimballaw9_num.calls t159 t177 _ A87.out).mono ?_); rintro e w' ⟨rfl, ⟨nd, rfl⟩⟩; refine ⟨_, rfl, ?_⟩; have hnb92 := NB160_151.out; have hnc92 := NB151_160.out; have hnb93 := NB160_164.out; have hnc93 := NB164_160.out; have hcz94_0 : wc.cell? ⟨gb160, 0, none⟩ = some (.int .i64 t152) := (blk_cell BK160.out 0).trans rfl; have hcz94_1 : wc.cell? ⟨gb160, 1, none⟩ = some (.int .i64 t153) := (blk_cell BK160.out 1).trans rfl; have hcz94_2 : wc.cell? ⟨gb160, 2, none⟩ = some (.slice Ao17 t154.length co17) := (blk_cell BK160.out 2).trans rfl; have hcz94_3 : wc.cell? ⟨gb160, 3, none⟩ = some (.int .i64 t157) := (blk_cell BK160.out 3).trans rfl; have hfz94_0 := blk_frozen BK160.out 0; have hfz94_1 := blk_frozen BK160.out 1; have hfz94_2 := blk_frozen BK160.out 2; have hfz94_3 := blk_frozen BK160.out 3; have hnb95 := NB164_151.out; have hnc95 := NB151_164.out; have hcz96_0 : wc.cell? ⟨gb164, 0, none⟩ = some (.int .i64 x165000_9) := (blk_cell BK164.out 0).trans rfl; have hcz96_1 : wc.cell? ⟨gb164, 1, none⟩ = some (.int .i64 x165001_9) := (blk_cell BK164.out 1).trans rfl; have hcz96_2 : wc.cell? ⟨gb164, 2, none⟩ = some (u165002) := (blk_cell BK164.out 2).trans rfl; have hcz96_3 : wc.cell? ⟨gb164, 3, none⟩ = some (.int .i64 x165003_9) := (blk_cell BK164.out 3).trans rfl; have hfz96_0 := blk_frozen BK164.out 0; have hfz96_1 := blk_frozen BK164.out 1; have hfz96_2 := blk_frozen BK164.out 2; have hfz96_3 := blk_frozen BK164.out 3; obtain ⟨Ao97, co97, eo97⟩ := Kd.R_slice HO_165002.out; subst eo97) | (go_at_call 12; (with_reducible refine (gimbalref0_EqTx.calls kj78 t152 t153 _ _ t154 t157 x165000_9 x165001_9 _ _ x165002_9 x165003_9 true _ ?side1 ?side2 ?side3 ?side4 A90.out).mono ?_); (case side1 => repeat (first | exact (Kd.R_reads' HO_161002.out).2.2 | (with_reducible refine Kd.C_alloc ?_ _) | (with_reducible refine Kd.C_drewN ?_ _) | (with_reducible refine Kd.C_drew ?_))); (case side2 => exact (Kd.R_reads' HO_161002.out).2.1); (case side3 => repeat (first | exact (Kd.R_reads' HO_165002.out).2.2 | (with_reducible refine Kd.C_alloc ?_ _) | (with_reducible refine Kd.C_drewN ?_ _) | (with_reducible refine Kd.C_drew ?_))); (case side4 => exact (Kd.R_reads' HO_165002.out).2.1); rintro e w98 ⟨rfl, hb⟩; have n0_ := Aside0.mk (Kd.R_below (by (with_reducible repeat (first | apply Kd.R_alloc | apply Kd.R_drewN | apply Kd.R_drew)); exact HO_161002.out) hb); have n1_ := Aside0.mk (Kd.R_below (by (with_reducible repeat (first | apply Kd.R_alloc | apply Kd.R_drewN | apply Kd.R_drew)); exact HO_165002.out) hb); have n2_ := Aside0.mk (blk_below (g := gb151) (o := .cells #[.int .i64 ((rd_T29 l0 x3_1).f0.f0), .int .i64 ((rd_T29 l0 x3_1).f0.f1), .bool ((rd_T29 l0 x3_1).f0.f2), .int .i64 ((rd_T29 l0 x3_1).f0.f3), .int .i64 ((rd_T29 l0 x3_1).f0.f4), .int .i64 ((rd_T29 l0 x3_1).f0.f5), .bool ((rd_T29 l0 x3_1).f0.f6), .int .i64 ((rd_T29 l0 x3_1).f0.f7), .int .i64 ((rd_T29 l0 x3_1).f0.f8)] 24 (0, 0)) (by (with_reducible repeat (first | refine blk_drewN ?_ _ | refine blk_drew ?_ | refine blk_alloc ?_ _)); exact BK151.out) hb); have n3_ := Aside0.mk (blk_below (g := gb160) (o := .cells #[.int .i64 t152, .int .i64 t153, .slice Ao17 t154.length co17, .int .i64 t157] 31 (0, 0)) (by (with_reducible repeat (first | refine blk_drewN ?_ _ | refine blk_drew ?_ | refine blk_alloc ?_ _)); exact BK160.out) hb); have n4_ := Aside0.mk (blk_below (g := gb164) (o := .cells #[.int .i64 x165000_9, .int .i64 x165001_9, .slice Ao97 x165002_9.length co97, .int .i64 x165003_9] 31 (0, 0)) (by (with_reducible repeat (first | refine blk_drewN ?_ _ | refine blk_drew ?_ | refine blk_alloc ?_ _)); exact BK164.out) hb); have n5_ := Aside0.mk (below_step (by repeat (first | (with_reducible first | exact HB.out | apply below_alloc | apply pw_below_drewN | apply below_drew1 | refine below_set ?_ GE151.out | refine below_set ?_ GE160.out | refine below_set ?_ GE164.out) | exact HB.out)) hb); clear HO_161002; clear HO_165002; clear BK151; clear BK160; clear BK164; clear HB; have HO_161002 := n0_; have HO_165002 := n1_; have BK151 := n2_; have BK160 := n3_; have BK164 := n4_; have HB := n5_; clear n0_ n1_ n2_ n3_ n4_ n5_; (try clear hb); (try clear hb2); (try clear hk); (try clear hi)))
                                go_roundg kj78
                                case measure => have := HK1.out; have := HJ1.out; have := HJ9.out; have := HJ78.out; omega
                                case rel => exact ⟨(wrap64 (x3_1 + 1)), (by first | rfl | (simp; done) | (simp [*]; done)), H', ⟨by have := HK1.out; have := HJ1.out; have := HJ9.out; have := HJ78.out; omega⟩, ⟨by repeat (first | (with_reducible first | exact HB.out | apply below_alloc | apply pw_below_drewN | apply below_drew1 | refine below_set ?_ GE151.out | refine below_set ?_ GE160.out | refine below_set ?_ GE164.out) | exact HB.out)⟩⟩
                              · replace c91 := Bool.eq_false_iff.mpr c91
                                subst c91
                                have H1 : (some false) = some r := by rw [if_neg (show ¬ (false = true) by decide)] at H; exact H
                                clear H
                                have H := H1
                                clear H1
                                obtain rfl := Option.some.inj H
                                go_wp2_with (first | ((with_reducible refine gate_callee (f := 11) rfl ?_); refine goesL_ (some 103) rfl rfl Try.func11 (by kernel_rfl) rfl #[.int .i64 t159] rfl (by (try simp only [List.map_toArray, List.map_cons, List.map_nil]); first | done | rfl | (simp only [List.length_drop, List.length_take]; rfl)) ?_; (with_reducible refine (gimballaw9_num.calls t159 t177 _ A87.out).mono ?_); rintro e w' ⟨rfl, ⟨nd, rfl⟩⟩; refine ⟨_, rfl, ?_⟩; have hnb99 := NB160_151.out; have hnc99 := NB151_160.out; have hnb100 := NB160_164.out; have hnc100 := NB164_160.out; have hcz101_0 : wc.cell? ⟨gb160, 0, none⟩ = some (.int .i64 t152) := (blk_cell BK160.out 0).trans rfl; have hcz101_1 : wc.cell? ⟨gb160, 1, none⟩ = some (.int .i64 t153) := (blk_cell BK160.out 1).trans rfl; have hcz101_2 : wc.cell? ⟨gb160, 2, none⟩ = some (.slice Ao17 t154.length co17) := (blk_cell BK160.out 2).trans rfl; have hcz101_3 : wc.cell? ⟨gb160, 3, none⟩ = some (.int .i64 t157) := (blk_cell BK160.out 3).trans rfl; have hfz101_0 := blk_frozen BK160.out 0; have hfz101_1 := blk_frozen BK160.out 1; have hfz101_2 := blk_frozen BK160.out 2; have hfz101_3 := blk_frozen BK160.out 3; have hnb102 := NB164_151.out; have hnc102 := NB151_164.out; have hcz103_0 : wc.cell? ⟨gb164, 0, none⟩ = some (.int .i64 x165000_9) := (blk_cell BK164.out 0).trans rfl; have hcz103_1 : wc.cell? ⟨gb164, 1, none⟩ = some (.int .i64 x165001_9) := (blk_cell BK164.out 1).trans rfl; have hcz103_2 : wc.cell? ⟨gb164, 2, none⟩ = some (u165002) := (blk_cell BK164.out 2).trans rfl; have hcz103_3 : wc.cell? ⟨gb164, 3, none⟩ = some (.int .i64 x165003_9) := (blk_cell BK164.out 3).trans rfl; have hfz103_0 := blk_frozen BK164.out 0; have hfz103_1 := blk_frozen BK164.out 1; have hfz103_2 := blk_frozen BK164.out 2; have hfz103_3 := blk_frozen BK164.out 3; obtain ⟨Ao104, co104, eo104⟩ := Kd.R_slice HO_165002.out; subst eo104) | (go_at_call 12; (with_reducible refine (gimbalref0_EqTx.calls kj78 t152 t153 _ _ t154 t157 x165000_9 x165001_9 _ _ x165002_9 x165003_9 false _ ?side1 ?side2 ?side3 ?side4 A90.out).mono ?_); (case side1 => repeat (first | exact (Kd.R_reads' HO_161002.out).2.2 | (with_reducible refine Kd.C_alloc ?_ _) | (with_reducible refine Kd.C_drewN ?_ _) | (with_reducible refine Kd.C_drew ?_))); (case side2 => exact (Kd.R_reads' HO_161002.out).2.1); (case side3 => repeat (first | exact (Kd.R_reads' HO_165002.out).2.2 | (with_reducible refine Kd.C_alloc ?_ _) | (with_reducible refine Kd.C_drewN ?_ _) | (with_reducible refine Kd.C_drew ?_))); (case side4 => exact (Kd.R_reads' HO_165002.out).2.1); rintro e w105 ⟨rfl, hb⟩; have n0_ := Aside0.mk (Kd.R_below (by (with_reducible repeat (first | apply Kd.R_alloc | apply Kd.R_drewN | apply Kd.R_drew)); exact HO_161002.out) hb); have n1_ := Aside0.mk (Kd.R_below (by (with_reducible repeat (first | apply Kd.R_alloc | apply Kd.R_drewN | apply Kd.R_drew)); exact HO_165002.out) hb); have n2_ := Aside0.mk (blk_below (g := gb151) (o := .cells #[.int .i64 ((rd_T29 l0 x3_1).f0.f0), .int .i64 ((rd_T29 l0 x3_1).f0.f1), .bool ((rd_T29 l0 x3_1).f0.f2), .int .i64 ((rd_T29 l0 x3_1).f0.f3), .int .i64 ((rd_T29 l0 x3_1).f0.f4), .int .i64 ((rd_T29 l0 x3_1).f0.f5), .bool ((rd_T29 l0 x3_1).f0.f6), .int .i64 ((rd_T29 l0 x3_1).f0.f7), .int .i64 ((rd_T29 l0 x3_1).f0.f8)] 24 (0, 0)) (by (with_reducible repeat (first | refine blk_drewN ?_ _ | refine blk_drew ?_ | refine blk_alloc ?_ _)); exact BK151.out) hb); have n3_ := Aside0.mk (blk_below (g := gb160) (o := .cells #[.int .i64 t152, .int .i64 t153, .slice Ao17 t154.length co17, .int .i64 t157] 31 (0, 0)) (by (with_reducible repeat (first | refine blk_drewN ?_ _ | refine blk_drew ?_ | refine blk_alloc ?_ _)); exact BK160.out) hb); have n4_ := Aside0.mk (blk_below (g := gb164) (o := .cells #[.int .i64 x165000_9, .int .i64 x165001_9, .slice Ao104 x165002_9.length co104, .int .i64 x165003_9] 31 (0, 0)) (by (with_reducible repeat (first | refine blk_drewN ?_ _ | refine blk_drew ?_ | refine blk_alloc ?_ _)); exact BK164.out) hb); have n5_ := Aside0.mk (below_step (by repeat (first | (with_reducible first | exact HB.out | apply below_alloc | apply pw_below_drewN | apply below_drew1 | refine below_set ?_ GE151.out | refine below_set ?_ GE160.out | refine below_set ?_ GE164.out) | exact HB.out)) hb); clear HO_161002; clear HO_165002; clear BK151; clear BK160; clear BK164; clear HB; have HO_161002 := n0_; have HO_165002 := n1_; have BK151 := n2_; have BK160 := n3_; have BK164 := n4_; have HB := n5_; clear n0_ n1_ n2_ n3_ n4_ n5_; (try clear hb); (try clear hb2); (try clear hk); (try clear hi)))
                                go_ret
                                exact ⟨by first | rfl | (simp [errW_none, errW_some] <;> rfl) | (simp [*, errW_none, errW_some] <;> rfl), by repeat (first | (with_reducible first | exact HB.out | apply below_alloc | apply pw_below_drewN | apply below_drew1 | refine below_set ?_ GE151.out | refine below_set ?_ GE160.out | refine below_set ?_ GE164.out) | exact HB.out)⟩
                          · rw [if_neg c88] at H
                            have c88b0 : (t177 == 0) = false := beq_eq_false_iff_ne.mpr c88
                            have c88b1 : (t177 != 0) = true := bne_iff_ne.mpr c88
                            obtain rfl := Option.some.inj H
                            go_wp2_with (first | ((with_reducible refine gate_callee (f := 11) rfl ?_); refine goesL_ (some 103) rfl rfl Try.func11 (by kernel_rfl) rfl #[.int .i64 t159] rfl (by (try simp only [List.map_toArray, List.map_cons, List.map_nil]); first | done | rfl | (simp only [List.length_drop, List.length_take]; rfl)) ?_; (with_reducible refine (gimballaw9_num.calls t159 t177 _ A87.out).mono ?_); rintro e w' ⟨rfl, ⟨nd, rfl⟩⟩; refine ⟨_, rfl, ?_⟩))
                            go_ret
                            exact ⟨by first | rfl | (simp [errW_none, errW_some] <;> rfl) | (simp [*, errW_none, errW_some] <;> rfl), by repeat (first | (with_reducible first | exact HB.out | apply below_alloc | apply pw_below_drewN | apply below_drew1 | refine below_set ?_ GE151.out | refine below_set ?_ GE160.out | refine below_set ?_ GE164.out) | exact HB.out)⟩
                · replace c9 := Bool.eq_false_iff.mpr c9
                  subst c9
                  have H1 : ((gimballaw9_num.f t159).bind fun t162 => (if t162 = 1 then (if t158 = true then (some false) else ((gimbalref0_EqTx.f kj1 t152 t153 t154 t157 0 0 ([] : List Int) 0).bind fun t163 => (if t163 = true then (gimballaw9_DrvNexts.l0 kj1 l0 (wrap64 (x3_1 + 1))) else (some false)))) else (some false))) = some r := by rw [if_neg (show ¬ (false = true) by decide)] at H; exact H
                  clear H
                  have H := H1
                  clear H1
                  replace H := Option.bind_eq_some_iff.mp H
                  obtain ⟨t162, A1060, H⟩ := H
                  replace H : (if t162 = 1 then (if t158 = true then (some false) else ((gimbalref0_EqTx.f kj1 t152 t153 t154 t157 0 0 ([] : List Int) 0).bind fun t163 => (if t163 = true then (gimballaw9_DrvNexts.l0 kj1 l0 (wrap64 (x3_1 + 1))) else (some false)))) else (some false)) = some r := H
                  have A106 := Aside0.mk A1060
                  clear A1060
                  by_cases c107 : t162 = 1
                  · rw [if_pos c107] at H
                    have c107b0 : (t162 == 1) = true := beq_iff_eq.mpr c107
                    have c107b1 : (t162 != 1) = false := bne_eq_false_iff_eq.mpr c107
                    clear c107
                    by_cases c108 : t158 = true
                    · subst c108
                      have H1 : (some false) = some r := by rw [if_pos rfl] at H; exact H
                      clear H
                      have H := H1
                      clear H1
                      obtain rfl := Option.some.inj H
                      have p150 : 0 ≤ (x3_1 : Int) := of_decide_eq_true (by first | (with_reducible assumption) | assumption)
                      have q150 : x3_1 < (l0.length : Int) := of_decide_eq_true (by first | (with_reducible assumption) | assumption)
                      obtain ⟨ad150, A150_12, c150_12, e150, hx150_0, hx150_1, hx150_2, hx150_3, hx150_4, hx150_5, hx150_6, hx150_7, hx150_8, hx150_9, hx150_10, hx150_11, hx150_12, hl150_12, hi150_12⟩ := at_T29 HR0.out x3_1 p150 q150
                      cases e150
                      replace hx150_0 := (HB.out.cell (World.block_lt_of_cell? w _ hx150_0)).trans hx150_0
                      replace hx150_1 := (HB.out.cell (World.block_lt_of_cell? w _ hx150_1)).trans hx150_1
                      replace hx150_2 := (HB.out.cell (World.block_lt_of_cell? w _ hx150_2)).trans hx150_2
                      replace hx150_3 := (HB.out.cell (World.block_lt_of_cell? w _ hx150_3)).trans hx150_3
                      replace hx150_4 := (HB.out.cell (World.block_lt_of_cell? w _ hx150_4)).trans hx150_4
                      replace hx150_5 := (HB.out.cell (World.block_lt_of_cell? w _ hx150_5)).trans hx150_5
                      replace hx150_6 := (HB.out.cell (World.block_lt_of_cell? w _ hx150_6)).trans hx150_6
                      replace hx150_7 := (HB.out.cell (World.block_lt_of_cell? w _ hx150_7)).trans hx150_7
                      replace hx150_8 := (HB.out.cell (World.block_lt_of_cell? w _ hx150_8)).trans hx150_8
                      replace hx150_9 := (HB.out.cell (World.block_lt_of_cell? w _ hx150_9)).trans hx150_9
                      replace hx150_10 := (HB.out.cell (World.block_lt_of_cell? w _ hx150_10)).trans hx150_10
                      replace hx150_11 := (HB.out.cell (World.block_lt_of_cell? w _ hx150_11)).trans hx150_11
                      replace hx150_12 := (HB.out.cell (World.block_lt_of_cell? w _ hx150_12)).trans hx150_12
                      have HR150_12 := Aside0.mk hi150_12
                      have HC150_12 := Aside0.mk hl150_12
                      clear hi150_12 hl150_12
                      replace p150 := eq_true p150
                      replace q150 := eq_true q150
                      go_wp2_with (first | ((with_reducible refine gate_dst (N := 4) rfl ?_); refine box_event ?hg (N := 4) ?hd (cs := #[.int .i64 0, .int .i64 0, .bool false, .int .i64 0, .int .i64 0, .int .i64 0, .bool false, .int .i64 0, .int .i64 0]) (t := 24) ?hr ?_; (case hd => rfl); (case hg => rfl); (case hr => first | (go_simp; done) | (go_simp; rfl)); intro gb151 hg w109 hbox hb; have n0_ := Aside0.mk (below_step (by repeat (first | (with_reducible first | exact HB.out | apply below_alloc | apply pw_below_drewN | apply below_drew1) | exact HB.out)) hb); have n1_ := Aside0.mk (hbox); have n2_ := Aside0.mk ((by rw [hg]; exact (below_size (by repeat (first | (with_reducible first | exact HB.out | apply below_alloc | apply pw_below_drewN | apply below_drew1) | exact HB.out))) : w.heap.size ≤ gb151)); have n3_ := Aside0.mk ((by rw [hg]; exact (below_size (by repeat (first | (with_reducible first | exact HB.out | apply below_alloc | apply pw_below_drewN | apply below_drew1) | exact HB.out))) : w.heap.size ≤ gb151)); clear HB; have HB := n0_; have BK151 := n1_; have GW151 := n2_; have GE151 := n3_; clear n0_ n1_ n2_ n3_; clear hb hbox hg; have hcz110_0 : w109.cell? ⟨gb151, 0, none⟩ = some (.int .i64 0) := (blk_cell BK151.out 0).trans rfl; have hcz110_1 : w109.cell? ⟨gb151, 1, none⟩ = some (.int .i64 0) := (blk_cell BK151.out 1).trans rfl; have hcz110_2 : w109.cell? ⟨gb151, 2, none⟩ = some (.bool false) := (blk_cell BK151.out 2).trans rfl; have hcz110_3 : w109.cell? ⟨gb151, 3, none⟩ = some (.int .i64 0) := (blk_cell BK151.out 3).trans rfl; have hcz110_4 : w109.cell? ⟨gb151, 4, none⟩ = some (.int .i64 0) := (blk_cell BK151.out 4).trans rfl; have hcz110_5 : w109.cell? ⟨gb151, 5, none⟩ = some (.int .i64 0) := (blk_cell BK151.out 5).trans rfl; have hcz110_6 : w109.cell? ⟨gb151, 6, none⟩ = some (.bool false) := (blk_cell BK151.out 6).trans rfl; have hcz110_7 : w109.cell? ⟨gb151, 7, none⟩ = some (.int .i64 0) := (blk_cell BK151.out 7).trans rfl; have hcz110_8 : w109.cell? ⟨gb151, 8, none⟩ = some (.int .i64 0) := (blk_cell BK151.out 8).trans rfl; have hfz110_0 := blk_frozen BK151.out 0; have hfz110_1 := blk_frozen BK151.out 1; have hfz110_2 := blk_frozen BK151.out 2; have hfz110_3 := blk_frozen BK151.out 3; have hfz110_4 := blk_frozen BK151.out 4; have hfz110_5 := blk_frozen BK151.out 5; have hfz110_6 := blk_frozen BK151.out 6; have hfz110_7 := blk_frozen BK151.out 7; have hfz110_8 := blk_frozen BK151.out 8) | ((with_reducible refine gate_callee (f := 9) rfl ?_); refine goesL_ (some 27) rfl rfl Try.func9 (by kernel_rfl) rfl #[.agg #[.int .i64 ((rd_T29 l0 x3_1).f0.f0), .int .i64 ((rd_T29 l0 x3_1).f0.f1), .bool ((rd_T29 l0 x3_1).f0.f2), .int .i64 ((rd_T29 l0 x3_1).f0.f3), .int .i64 ((rd_T29 l0 x3_1).f0.f4), .int .i64 ((rd_T29 l0 x3_1).f0.f5), .bool ((rd_T29 l0 x3_1).f0.f6), .int .i64 ((rd_T29 l0 x3_1).f0.f7), .int .i64 ((rd_T29 l0 x3_1).f0.f8)]] rfl (by (try simp only [List.map_toArray, List.map_cons, List.map_nil]); first | done | rfl | (simp only [List.length_drop, List.length_take]; rfl)) ?_; (with_reducible refine (drv_Next.calls ((rd_T29 l0 x3_1).f0.f0) ((rd_T29 l0 x3_1).f0.f1) ((rd_T29 l0 x3_1).f0.f2) ((rd_T29 l0 x3_1).f0.f3) ((rd_T29 l0 x3_1).f0.f4) ((rd_T29 l0 x3_1).f0.f5) ((rd_T29 l0 x3_1).f0.f6) ((rd_T29 l0 x3_1).f0.f7) ((rd_T29 l0 x3_1).f0.f8) t152 t153 t154 t157 true t159 _ A7.out).mono ?_); rintro e w111 ⟨v155, rfl, ho0, hb⟩; refine ⟨_, rfl, ?_⟩; have n0_ := Aside0.mk (Kd.R_lower ho0 (below_size (by repeat (first | (with_reducible first | exact HB.out | apply below_alloc | apply pw_below_drewN | apply below_drew1 | refine below_set ?_ GE151.out) | exact HB.out)))); have n1_ := Aside0.mk (blk_below (g := gb151) (o := .cells #[.int .i64 ((rd_T29 l0 x3_1).f0.f0), .int .i64 ((rd_T29 l0 x3_1).f0.f1), .bool ((rd_T29 l0 x3_1).f0.f2), .int .i64 ((rd_T29 l0 x3_1).f0.f3), .int .i64 ((rd_T29 l0 x3_1).f0.f4), .int .i64 ((rd_T29 l0 x3_1).f0.f5), .bool ((rd_T29 l0 x3_1).f0.f6), .int .i64 ((rd_T29 l0 x3_1).f0.f7), .int .i64 ((rd_T29 l0 x3_1).f0.f8)] 24 (0, 0)) (by (with_reducible repeat (first | refine blk_drewN ?_ _ | refine blk_drew ?_ | refine blk_alloc ?_ _)); refine blk_put (cs := #[.int .i64 ((rd_T29 l0 x3_1).f0.f0), .int .i64 ((rd_T29 l0 x3_1).f0.f1), .bool ((rd_T29 l0 x3_1).f0.f2), .int .i64 ((rd_T29 l0 x3_1).f0.f3), .int .i64 ((rd_T29 l0 x3_1).f0.f4), .int .i64 ((rd_T29 l0 x3_1).f0.f5), .bool ((rd_T29 l0 x3_1).f0.f6), .int .i64 ((rd_T29 l0 x3_1).f0.f7), .int .i64 0]) ?_ 8 _ rfl; (with_reducible repeat (first | refine blk_drewN ?_ _ | refine blk_drew ?_ | refine blk_alloc ?_ _)); refine blk_put (cs := #[.int .i64 ((rd_T29 l0 x3_1).f0.f0), .int .i64 ((rd_T29 l0 x3_1).f0.f1), .bool ((rd_T29 l0 x3_1).f0.f2), .int .i64 ((rd_T29 l0 x3_1).f0.f3), .int .i64 ((rd_T29 l0 x3_1).f0.f4), .int .i64 ((rd_T29 l0 x3_1).f0.f5), .bool ((rd_T29 l0 x3_1).f0.f6), .int .i64 0, .int .i64 0]) ?_ 7 _ rfl; (with_reducible repeat (first | refine blk_drewN ?_ _ | refine blk_drew ?_ | refine blk_alloc ?_ _)); refine blk_put (cs := #[.int .i64 ((rd_T29 l0 x3_1).f0.f0), .int .i64 ((rd_T29 l0 x3_1).f0.f1), .bool ((rd_T29 l0 x3_1).f0.f2), .int .i64 ((rd_T29 l0 x3_1).f0.f3), .int .i64 ((rd_T29 l0 x3_1).f0.f4), .int .i64 ((rd_T29 l0 x3_1).f0.f5), .bool false, .int .i64 0, .int .i64 0]) ?_ 6 _ rfl; (with_reducible repeat (first | refine blk_drewN ?_ _ | refine blk_drew ?_ | refine blk_alloc ?_ _)); refine blk_put (cs := #[.int .i64 ((rd_T29 l0 x3_1).f0.f0), .int .i64 ((rd_T29 l0 x3_1).f0.f1), .bool ((rd_T29 l0 x3_1).f0.f2), .int .i64 ((rd_T29 l0 x3_1).f0.f3), .int .i64 ((rd_T29 l0 x3_1).f0.f4), .int .i64 0, .bool false, .int .i64 0, .int .i64 0]) ?_ 5 _ rfl; (with_reducible repeat (first | refine blk_drewN ?_ _ | refine blk_drew ?_ | refine blk_alloc ?_ _)); refine blk_put (cs := #[.int .i64 ((rd_T29 l0 x3_1).f0.f0), .int .i64 ((rd_T29 l0 x3_1).f0.f1), .bool ((rd_T29 l0 x3_1).f0.f2), .int .i64 ((rd_T29 l0 x3_1).f0.f3), .int .i64 0, .int .i64 0, .bool false, .int .i64 0, .int .i64 0]) ?_ 4 _ rfl; (with_reducible repeat (first | refine blk_drewN ?_ _ | refine blk_drew ?_ | refine blk_alloc ?_ _)); refine blk_put (cs := #[.int .i64 ((rd_T29 l0 x3_1).f0.f0), .int .i64 ((rd_T29 l0 x3_1).f0.f1), .bool ((rd_T29 l0 x3_1).f0.f2), .int .i64 0, .int .i64 0, .int .i64 0, .bool false, .int .i64 0, .int .i64 0]) ?_ 3 _ rfl; (with_reducible repeat (first | refine blk_drewN ?_ _ | refine blk_drew ?_ | refine blk_alloc ?_ _)); refine blk_put (cs := #[.int .i64 ((rd_T29 l0 x3_1).f0.f0), .int .i64 ((rd_T29 l0 x3_1).f0.f1), .bool false, .int .i64 0, .int .i64 0, .int .i64 0, .bool false, .int .i64 0, .int .i64 0]) ?_ 2 _ rfl; (with_reducible repeat (first | refine blk_drewN ?_ _ | refine blk_drew ?_ | refine blk_alloc ?_ _)); refine blk_put (cs := #[.int .i64 ((rd_T29 l0 x3_1).f0.f0), .int .i64 0, .bool false, .int .i64 0, .int .i64 0, .int .i64 0, .bool false, .int .i64 0, .int .i64 0]) ?_ 1 _ rfl; (with_reducible repeat (first | refine blk_drewN ?_ _ | refine blk_drew ?_ | refine blk_alloc ?_ _)); refine blk_put (cs := #[.int .i64 0, .int .i64 0, .bool false, .int .i64 0, .int .i64 0, .int .i64 0, .bool false, .int .i64 0, .int .i64 0]) ?_ 0 _ rfl; (with_reducible repeat (first | refine blk_drewN ?_ _ | refine blk_drew ?_ | refine blk_alloc ?_ _)); exact BK151.out) hb); have n2_ := Aside0.mk (below_step (by repeat (first | (with_reducible first | exact HB.out | apply below_alloc | apply pw_below_drewN | apply below_drew1 | refine below_set ?_ GE151.out) | exact HB.out)) hb); clear BK151; clear HB; have HO156 := n0_; have BK151 := n1_; have HB := n2_; clear n0_ n1_ n2_; (try clear hb); (try clear hb2); (try clear hk); (try clear hi); (try clear ho0)) | ((with_reducible refine gate_dst (N := 5) rfl ?_); refine box_event ?hg (N := 5) ?hd (cs := #[.int .i64 0, .int .i64 0, .slice none 0 0, .int .i64 0]) (t := 31) ?hr ?_; (case hd => rfl); (case hg => rfl); (case hr => first | (go_simp; done) | (go_simp; rfl)); intro gb160 hg w112 hbox hb; have n0_ := Aside0.mk (Kd.R_below (by (with_reducible repeat (first | apply Kd.R_alloc | apply Kd.R_drewN | apply Kd.R_drew)); exact HO156.out) hb); have n1_ := Aside0.mk (blk_below (g := gb151) (o := .cells #[.int .i64 ((rd_T29 l0 x3_1).f0.f0), .int .i64 ((rd_T29 l0 x3_1).f0.f1), .bool ((rd_T29 l0 x3_1).f0.f2), .int .i64 ((rd_T29 l0 x3_1).f0.f3), .int .i64 ((rd_T29 l0 x3_1).f0.f4), .int .i64 ((rd_T29 l0 x3_1).f0.f5), .bool ((rd_T29 l0 x3_1).f0.f6), .int .i64 ((rd_T29 l0 x3_1).f0.f7), .int .i64 ((rd_T29 l0 x3_1).f0.f8)] 24 (0, 0)) (by (with_reducible repeat (first | refine blk_drewN ?_ _ | refine blk_drew ?_ | refine blk_alloc ?_ _)); exact BK151.out) hb); have n2_ := Aside0.mk (below_step (by repeat (first | (with_reducible first | exact HB.out | apply below_alloc | apply pw_below_drewN | apply below_drew1 | refine below_set ?_ GE151.out) | exact HB.out)) hb); have n3_ := Aside0.mk (hbox); have n4_ := Aside0.mk ((by rw [hg]; exact (below_size (by repeat (first | (with_reducible first | exact HB.out | apply below_alloc | apply pw_below_drewN | apply below_drew1 | refine below_set ?_ GE151.out) | exact HB.out))) : w.heap.size ≤ gb160)); have n5_ := Aside0.mk ((by rw [hg]; exact (below_size (by repeat (first | (with_reducible first | exact HB.out | apply below_alloc | apply pw_below_drewN | apply below_drew1 | refine below_set ?_ GE151.out) | exact HB.out))) : w.heap.size ≤ gb160)); have n6_ := Aside0.mk ((by rw [hg]; exact Nat.ne_of_lt (blk_lt (g := gb151) (o := .cells #[.int .i64 ((rd_T29 l0 x3_1).f0.f0), .int .i64 ((rd_T29 l0 x3_1).f0.f1), .bool ((rd_T29 l0 x3_1).f0.f2), .int .i64 ((rd_T29 l0 x3_1).f0.f3), .int .i64 ((rd_T29 l0 x3_1).f0.f4), .int .i64 ((rd_T29 l0 x3_1).f0.f5), .bool ((rd_T29 l0 x3_1).f0.f6), .int .i64 ((rd_T29 l0 x3_1).f0.f7), .int .i64 ((rd_T29 l0 x3_1).f0.f8)] 24 (0, 0)) (by (with_reducible repeat (first | refine blk_drewN ?_ _ | refine blk_drew ?_ | refine blk_alloc ?_ _)); exact BK151.out)) : gb151 ≠ gb160)); have n7_ := Aside0.mk ((by rw [hg]; exact Nat.ne_of_gt (blk_lt (g := gb151) (o := .cells #[.int .i64 ((rd_T29 l0 x3_1).f0.f0), .int .i64 ((rd_T29 l0 x3_1).f0.f1), .bool ((rd_T29 l0 x3_1).f0.f2), .int .i64 ((rd_T29 l0 x3_1).f0.f3), .int .i64 ((rd_T29 l0 x3_1).f0.f4), .int .i64 ((rd_T29 l0 x3_1).f0.f5), .bool ((rd_T29 l0 x3_1).f0.f6), .int .i64 ((rd_T29 l0 x3_1).f0.f7), .int .i64 ((rd_T29 l0 x3_1).f0.f8)] 24 (0, 0)) (by (with_reducible repeat (first | refine blk_drewN ?_ _ | refine blk_drew ?_ | refine blk_alloc ?_ _)); exact BK151.out)) : gb160 ≠ gb151)); clear HO156; clear BK151; clear HB; have HO156 := n0_; have BK151 := n1_; have HB := n2_; have BK160 := n3_; have GW160 := n4_; have GE160 := n5_; have NB151_160 := n6_; have NB160_151 := n7_; clear n0_ n1_ n2_ n3_ n4_ n5_ n6_ n7_; clear hb hbox hg; have hnb113 := NB160_151.out; have hnc113 := NB151_160.out; have hcz114_0 : w112.cell? ⟨gb160, 0, none⟩ = some (.int .i64 0) := (blk_cell BK160.out 0).trans rfl; have hcz114_1 : w112.cell? ⟨gb160, 1, none⟩ = some (.int .i64 0) := (blk_cell BK160.out 1).trans rfl; have hcz114_2 : w112.cell? ⟨gb160, 2, none⟩ = some (.slice none 0 0) := (blk_cell BK160.out 2).trans rfl; have hcz114_3 : w112.cell? ⟨gb160, 3, none⟩ = some (.int .i64 0) := (blk_cell BK160.out 3).trans rfl; have hfz114_0 := blk_frozen BK160.out 0; have hfz114_1 := blk_frozen BK160.out 1; have hfz114_2 := blk_frozen BK160.out 2; have hfz114_3 := blk_frozen BK160.out 3; obtain ⟨Ao115, co115, eo115⟩ := Kd.R_slice HO156.out; subst eo115; have hcz116_0 : w112.cell? ⟨gb151, 0, none⟩ = some (.int .i64 ((rd_T29 l0 x3_1).f0.f0)) := (blk_cell BK151.out 0).trans rfl; have hcz116_1 : w112.cell? ⟨gb151, 1, none⟩ = some (.int .i64 ((rd_T29 l0 x3_1).f0.f1)) := (blk_cell BK151.out 1).trans rfl; have hcz116_2 : w112.cell? ⟨gb151, 2, none⟩ = some (.bool ((rd_T29 l0 x3_1).f0.f2)) := (blk_cell BK151.out 2).trans rfl; have hcz116_3 : w112.cell? ⟨gb151, 3, none⟩ = some (.int .i64 ((rd_T29 l0 x3_1).f0.f3)) := (blk_cell BK151.out 3).trans rfl; have hcz116_4 : w112.cell? ⟨gb151, 4, none⟩ = some (.int .i64 ((rd_T29 l0 x3_1).f0.f4)) := (blk_cell BK151.out 4).trans rfl; have hcz116_5 : w112.cell? ⟨gb151, 5, none⟩ = some (.int .i64 ((rd_T29 l0 x3_1).f0.f5)) := (blk_cell BK151.out 5).trans rfl; have hcz116_6 : w112.cell? ⟨gb151, 6, none⟩ = some (.bool ((rd_T29 l0 x3_1).f0.f6)) := (blk_cell BK151.out 6).trans rfl; have hcz116_7 : w112.cell? ⟨gb151, 7, none⟩ = some (.int .i64 ((rd_T29 l0 x3_1).f0.f7)) := (blk_cell BK151.out 7).trans rfl; have hcz116_8 : w112.cell? ⟨gb151, 8, none⟩ = some (.int .i64 ((rd_T29 l0 x3_1).f0.f8)) := (blk_cell BK151.out 8).trans rfl; have hfz116_0 := blk_frozen BK151.out 0; have hfz116_1 := blk_frozen BK151.out 1; have hfz116_2 := blk_frozen BK151.out 2; have hfz116_3 := blk_frozen BK151.out 3; have hfz116_4 := blk_frozen BK151.out 4; have hfz116_5 := blk_frozen BK151.out 5; have hfz116_6 := blk_frozen BK151.out 6; have hfz116_7 := blk_frozen BK151.out 7; have hfz116_8 := blk_frozen BK151.out 8) | ((with_reducible refine gate_callee (f := 10) rfl ?_); refine goesL_ (some 32) rfl rfl Try.func10 (by kernel_rfl) rfl #[.agg #[.int .i64 ((rd_T29 l0 x3_1).f0.f0), .int .i64 ((rd_T29 l0 x3_1).f0.f1), .bool ((rd_T29 l0 x3_1).f0.f2), .int .i64 ((rd_T29 l0 x3_1).f0.f3), .int .i64 ((rd_T29 l0 x3_1).f0.f4), .int .i64 ((rd_T29 l0 x3_1).f0.f5), .bool ((rd_T29 l0 x3_1).f0.f6), .int .i64 ((rd_T29 l0 x3_1).f0.f7), .int .i64 ((rd_T29 l0 x3_1).f0.f8)]] rfl (by (try simp only [List.map_toArray, List.map_cons, List.map_nil]); first | done | rfl | (simp only [List.length_drop, List.length_take]; rfl)) ?_; (with_reducible refine (gimbalref9_May.calls kj1 ((rd_T29 l0 x3_1).f0.f0) ((rd_T29 l0 x3_1).f0.f1) ((rd_T29 l0 x3_1).f0.f2) ((rd_T29 l0 x3_1).f0.f3) ((rd_T29 l0 x3_1).f0.f4) ((rd_T29 l0 x3_1).f0.f5) ((rd_T29 l0 x3_1).f0.f6) ((rd_T29 l0 x3_1).f0.f7) ((rd_T29 l0 x3_1).f0.f8) false _ A8.out).mono ?_); rintro e w117 ⟨rfl, hb⟩; refine ⟨_, rfl, ?_⟩; have n0_ := Aside0.mk (Kd.R_below (by (with_reducible repeat (first | apply Kd.R_alloc | apply Kd.R_drewN | apply Kd.R_drew)); exact (Kd.R_mono (Kd.R_far (p := ⟨gb160, 3, none⟩) (Kd.R_far (p := ⟨gb160, 2, none⟩) (Kd.R_far (p := ⟨gb160, 1, none⟩) (Kd.R_far (p := ⟨gb160, 0, none⟩) (Kd.R_types HO156.out BK160.out (by decide)) (fun _ hk => hk.2) (.int .i64 t152)) (fun _ hk => hk.2) (.int .i64 t153)) (fun _ hk => hk.2) (.slice Ao115 t154.length co115)) (fun _ hk => hk.2) (.int .i64 t157)) (fun _ h_ => h_.1))) hb); have n1_ := Aside0.mk (blk_below (g := gb151) (o := .cells #[.int .i64 ((rd_T29 l0 x3_1).f0.f0), .int .i64 ((rd_T29 l0 x3_1).f0.f1), .bool ((rd_T29 l0 x3_1).f0.f2), .int .i64 ((rd_T29 l0 x3_1).f0.f3), .int .i64 ((rd_T29 l0 x3_1).f0.f4), .int .i64 ((rd_T29 l0 x3_1).f0.f5), .bool ((rd_T29 l0 x3_1).f0.f6), .int .i64 ((rd_T29 l0 x3_1).f0.f7), .int .i64 ((rd_T29 l0 x3_1).f0.f8)] 24 (0, 0)) (by (with_reducible repeat (first | refine blk_drewN ?_ _ | refine blk_drew ?_ | refine blk_alloc ?_ _)); refine blk_far ?_ NB151_160.out _; (with_reducible repeat (first | refine blk_drewN ?_ _ | refine blk_drew ?_ | refine blk_alloc ?_ _)); refine blk_far ?_ NB151_160.out _; (with_reducible repeat (first | refine blk_drewN ?_ _ | refine blk_drew ?_ | refine blk_alloc ?_ _)); refine blk_far ?_ NB151_160.out _; (with_reducible repeat (first | refine blk_drewN ?_ _ | refine blk_drew ?_ | refine blk_alloc ?_ _)); refine blk_far ?_ NB151_160.out _; (with_reducible repeat (first | refine blk_drewN ?_ _ | refine blk_drew ?_ | refine blk_alloc ?_ _)); exact BK151.out) hb); have n2_ := Aside0.mk (blk_below (g := gb160) (o := .cells #[.int .i64 t152, .int .i64 t153, .slice Ao115 t154.length co115, .int .i64 t157] 31 (0, 0)) (by (with_reducible repeat (first | refine blk_drewN ?_ _ | refine blk_drew ?_ | refine blk_alloc ?_ _)); refine blk_put (cs := #[.int .i64 t152, .int .i64 t153, .slice Ao115 t154.length co115, .int .i64 0]) ?_ 3 _ rfl; (with_reducible repeat (first | refine blk_drewN ?_ _ | refine blk_drew ?_ | refine blk_alloc ?_ _)); refine blk_put (cs := #[.int .i64 t152, .int .i64 t153, .slice none 0 0, .int .i64 0]) ?_ 2 _ rfl; (with_reducible repeat (first | refine blk_drewN ?_ _ | refine blk_drew ?_ | refine blk_alloc ?_ _)); refine blk_put (cs := #[.int .i64 t152, .int .i64 0, .slice none 0 0, .int .i64 0]) ?_ 1 _ rfl; (with_reducible repeat (first | refine blk_drewN ?_ _ | refine blk_drew ?_ | refine blk_alloc ?_ _)); refine blk_put (cs := #[.int .i64 0, .int .i64 0, .slice none 0 0, .int .i64 0]) ?_ 0 _ rfl; (with_reducible repeat (first | refine blk_drewN ?_ _ | refine blk_drew ?_ | refine blk_alloc ?_ _)); exact BK160.out) hb); have n3_ := Aside0.mk (below_step (by repeat (first | (with_reducible first | exact HB.out | apply below_alloc | apply pw_below_drewN | apply below_drew1 | refine below_set ?_ GE151.out | refine below_set ?_ GE160.out) | exact HB.out)) hb); clear HO156; clear BK151; clear BK160; clear HB; have HO156 := n0_; have BK151 := n1_; have BK160 := n2_; have HB := n3_; clear n0_ n1_ n2_ n3_; (try clear hb); (try clear hb2); (try clear hk); (try clear hi)) | ((with_reducible refine gate_callee (f := 11) rfl ?_); refine goesL_ (some 35) rfl rfl Try.func11 (by kernel_rfl) rfl #[.int .i64 t159] rfl (by (try simp only [List.map_toArray, List.map_cons, List.map_nil]); first | done | rfl | (simp only [List.length_drop, List.length_take]; rfl)) ?_; (with_reducible refine (gimballaw9_num.calls t159 t162 _ A106.out).mono ?_); rintro e w' ⟨rfl, ⟨nd, rfl⟩⟩; refine ⟨_, rfl, ?_⟩))
                      go_ret
                      exact ⟨by first | rfl | (simp [errW_none, errW_some] <;> rfl) | (simp [*, errW_none, errW_some] <;> rfl), by repeat (first | (with_reducible first | exact HB.out | apply below_alloc | apply pw_below_drewN | apply below_drew1 | refine below_set ?_ GE151.out | refine below_set ?_ GE160.out) | exact HB.out)⟩
                    · replace c108 := Bool.eq_false_iff.mpr c108
                      subst c108
                      have H1 : ((gimbalref0_EqTx.f kj1 t152 t153 t154 t157 0 0 ([] : List Int) 0).bind fun t163 => (if t163 = true then (gimballaw9_DrvNexts.l0 kj1 l0 (wrap64 (x3_1 + 1))) else (some false))) = some r := by rw [if_neg (show ¬ (false = true) by decide)] at H; exact H
                      clear H
                      have H := H1
                      clear H1
                      replace H := Option.bind_eq_some_iff.mp H
                      obtain ⟨t163, A1180, H⟩ := H
                      replace H : (if t163 = true then (gimballaw9_DrvNexts.l0 kj1 l0 (wrap64 (x3_1 + 1))) else (some false)) = some r := H
                      have A118 := Aside0.mk A1180
                      clear A1180
                      by_cases c119 : t163 = true
                      · subst c119
                        have H1 : (gimballaw9_DrvNexts.l0 kj1 l0 (wrap64 (x3_1 + 1))) = some r := by rw [if_pos rfl] at H; exact H
                        clear H
                        have H := H1
                        clear H1
                        have H' := Aside0.mk H
                        clear H
                        have p150 : 0 ≤ (x3_1 : Int) := of_decide_eq_true (by first | (with_reducible assumption) | assumption)
                        have q150 : x3_1 < (l0.length : Int) := of_decide_eq_true (by first | (with_reducible assumption) | assumption)
                        obtain ⟨ad150, A150_12, c150_12, e150, hx150_0, hx150_1, hx150_2, hx150_3, hx150_4, hx150_5, hx150_6, hx150_7, hx150_8, hx150_9, hx150_10, hx150_11, hx150_12, hl150_12, hi150_12⟩ := at_T29 HR0.out x3_1 p150 q150
                        cases e150
                        replace hx150_0 := (HB.out.cell (World.block_lt_of_cell? w _ hx150_0)).trans hx150_0
                        replace hx150_1 := (HB.out.cell (World.block_lt_of_cell? w _ hx150_1)).trans hx150_1
                        replace hx150_2 := (HB.out.cell (World.block_lt_of_cell? w _ hx150_2)).trans hx150_2
                        replace hx150_3 := (HB.out.cell (World.block_lt_of_cell? w _ hx150_3)).trans hx150_3
                        replace hx150_4 := (HB.out.cell (World.block_lt_of_cell? w _ hx150_4)).trans hx150_4
                        replace hx150_5 := (HB.out.cell (World.block_lt_of_cell? w _ hx150_5)).trans hx150_5
                        replace hx150_6 := (HB.out.cell (World.block_lt_of_cell? w _ hx150_6)).trans hx150_6
                        replace hx150_7 := (HB.out.cell (World.block_lt_of_cell? w _ hx150_7)).trans hx150_7
                        replace hx150_8 := (HB.out.cell (World.block_lt_of_cell? w _ hx150_8)).trans hx150_8
                        replace hx150_9 := (HB.out.cell (World.block_lt_of_cell? w _ hx150_9)).trans hx150_9
                        replace hx150_10 := (HB.out.cell (World.block_lt_of_cell? w _ hx150_10)).trans hx150_10
                        replace hx150_11 := (HB.out.cell (World.block_lt_of_cell? w _ hx150_11)).trans hx150_11
                        replace hx150_12 := (HB.out.cell (World.block_lt_of_cell? w _ hx150_12)).trans hx150_12
                        have HR150_12 := Aside0.mk hi150_12
                        have HC150_12 := Aside0.mk hl150_12
                        clear hi150_12 hl150_12
                        replace p150 := eq_true p150
                        replace q150 := eq_true q150
                        go_wp2_with (first | ((with_reducible refine gate_dst (N := 4) rfl ?_); refine box_event ?hg (N := 4) ?hd (cs := #[.int .i64 0, .int .i64 0, .bool false, .int .i64 0, .int .i64 0, .int .i64 0, .bool false, .int .i64 0, .int .i64 0]) (t := 24) ?hr ?_; (case hd => rfl); (case hg => rfl); (case hr => first | (go_simp; done) | (go_simp; rfl)); intro gb151 hg w120 hbox hb; have n0_ := Aside0.mk (below_step (by repeat (first | (with_reducible first | exact HB.out | apply below_alloc | apply pw_below_drewN | apply below_drew1) | exact HB.out)) hb); have n1_ := Aside0.mk (hbox); have n2_ := Aside0.mk ((by rw [hg]; exact (below_size (by repeat (first | (with_reducible first | exact HB.out | apply below_alloc | apply pw_below_drewN | apply below_drew1) | exact HB.out))) : w.heap.size ≤ gb151)); have n3_ := Aside0.mk ((by rw [hg]; exact (below_size (by repeat (first | (with_reducible first | exact HB.out | apply below_alloc | apply pw_below_drewN | apply below_drew1) | exact HB.out))) : w.heap.size ≤ gb151)); clear HB; have HB := n0_; have BK151 := n1_; have GW151 := n2_; have GE151 := n3_; clear n0_ n1_ n2_ n3_; clear hb hbox hg; have hcz121_0 : w120.cell? ⟨gb151, 0, none⟩ = some (.int .i64 0) := (blk_cell BK151.out 0).trans rfl; have hcz121_1 : w120.cell? ⟨gb151, 1, none⟩ = some (.int .i64 0) := (blk_cell BK151.out 1).trans rfl; have hcz121_2 : w120.cell? ⟨gb151, 2, none⟩ = some (.bool false) := (blk_cell BK151.out 2).trans rfl; have hcz121_3 : w120.cell? ⟨gb151, 3, none⟩ = some (.int .i64 0) := (blk_cell BK151.out 3).trans rfl; have hcz121_4 : w120.cell? ⟨gb151, 4, none⟩ = some (.int .i64 0) := (blk_cell BK151.out 4).trans rfl; have hcz121_5 : w120.cell? ⟨gb151, 5, none⟩ = some (.int .i64 0) := (blk_cell BK151.out 5).trans rfl; have hcz121_6 : w120.cell? ⟨gb151, 6, none⟩ = some (.bool false) := (blk_cell BK151.out 6).trans rfl; have hcz121_7 : w120.cell? ⟨gb151, 7, none⟩ = some (.int .i64 0) := (blk_cell BK151.out 7).trans rfl; have hcz121_8 : w120.cell? ⟨gb151, 8, none⟩ = some (.int .i64 0) := (blk_cell BK151.out 8).trans rfl; have hfz121_0 := blk_frozen BK151.out 0; have hfz121_1 := blk_frozen BK151.out 1; have hfz121_2 := blk_frozen BK151.out 2; have hfz121_3 := blk_frozen BK151.out 3; have hfz121_4 := blk_frozen BK151.out 4; have hfz121_5 := blk_frozen BK151.out 5; have hfz121_6 := blk_frozen BK151.out 6; have hfz121_7 := blk_frozen BK151.out 7; have hfz121_8 := blk_frozen BK151.out 8) | ((with_reducible refine gate_callee (f := 9) rfl ?_); refine goesL_ (some 27) rfl rfl Try.func9 (by kernel_rfl) rfl #[.agg #[.int .i64 ((rd_T29 l0 x3_1).f0.f0), .int .i64 ((rd_T29 l0 x3_1).f0.f1), .bool ((rd_T29 l0 x3_1).f0.f2), .int .i64 ((rd_T29 l0 x3_1).f0.f3), .int .i64 ((rd_T29 l0 x3_1).f0.f4), .int .i64 ((rd_T29 l0 x3_1).f0.f5), .bool ((rd_T29 l0 x3_1).f0.f6), .int .i64 ((rd_T29 l0 x3_1).f0.f7), .int .i64 ((rd_T29 l0 x3_1).f0.f8)]] rfl (by (try simp only [List.map_toArray, List.map_cons, List.map_nil]); first | done | rfl | (simp only [List.length_drop, List.length_take]; rfl)) ?_; (with_reducible refine (drv_Next.calls ((rd_T29 l0 x3_1).f0.f0) ((rd_T29 l0 x3_1).f0.f1) ((rd_T29 l0 x3_1).f0.f2) ((rd_T29 l0 x3_1).f0.f3) ((rd_T29 l0 x3_1).f0.f4) ((rd_T29 l0 x3_1).f0.f5) ((rd_T29 l0 x3_1).f0.f6) ((rd_T29 l0 x3_1).f0.f7) ((rd_T29 l0 x3_1).f0.f8) t152 t153 t154 t157 false t159 _ A7.out).mono ?_); rintro e w122 ⟨v155, rfl, ho0, hb⟩; refine ⟨_, rfl, ?_⟩; have n0_ := Aside0.mk (Kd.R_lower ho0 (below_size (by repeat (first | (with_reducible first | exact HB.out | apply below_alloc | apply pw_below_drewN | apply below_drew1 | refine below_set ?_ GE151.out) | exact HB.out)))); have n1_ := Aside0.mk (blk_below (g := gb151) (o := .cells #[.int .i64 ((rd_T29 l0 x3_1).f0.f0), .int .i64 ((rd_T29 l0 x3_1).f0.f1), .bool ((rd_T29 l0 x3_1).f0.f2), .int .i64 ((rd_T29 l0 x3_1).f0.f3), .int .i64 ((rd_T29 l0 x3_1).f0.f4), .int .i64 ((rd_T29 l0 x3_1).f0.f5), .bool ((rd_T29 l0 x3_1).f0.f6), .int .i64 ((rd_T29 l0 x3_1).f0.f7), .int .i64 ((rd_T29 l0 x3_1).f0.f8)] 24 (0, 0)) (by (with_reducible repeat (first | refine blk_drewN ?_ _ | refine blk_drew ?_ | refine blk_alloc ?_ _)); refine blk_put (cs := #[.int .i64 ((rd_T29 l0 x3_1).f0.f0), .int .i64 ((rd_T29 l0 x3_1).f0.f1), .bool ((rd_T29 l0 x3_1).f0.f2), .int .i64 ((rd_T29 l0 x3_1).f0.f3), .int .i64 ((rd_T29 l0 x3_1).f0.f4), .int .i64 ((rd_T29 l0 x3_1).f0.f5), .bool ((rd_T29 l0 x3_1).f0.f6), .int .i64 ((rd_T29 l0 x3_1).f0.f7), .int .i64 0]) ?_ 8 _ rfl; (with_reducible repeat (first | refine blk_drewN ?_ _ | refine blk_drew ?_ | refine blk_alloc ?_ _)); refine blk_put (cs := #[.int .i64 ((rd_T29 l0 x3_1).f0.f0), .int .i64 ((rd_T29 l0 x3_1).f0.f1), .bool ((rd_T29 l0 x3_1).f0.f2), .int .i64 ((rd_T29 l0 x3_1).f0.f3), .int .i64 ((rd_T29 l0 x3_1).f0.f4), .int .i64 ((rd_T29 l0 x3_1).f0.f5), .bool ((rd_T29 l0 x3_1).f0.f6), .int .i64 0, .int .i64 0]) ?_ 7 _ rfl; (with_reducible repeat (first | refine blk_drewN ?_ _ | refine blk_drew ?_ | refine blk_alloc ?_ _)); refine blk_put (cs := #[.int .i64 ((rd_T29 l0 x3_1).f0.f0), .int .i64 ((rd_T29 l0 x3_1).f0.f1), .bool ((rd_T29 l0 x3_1).f0.f2), .int .i64 ((rd_T29 l0 x3_1).f0.f3), .int .i64 ((rd_T29 l0 x3_1).f0.f4), .int .i64 ((rd_T29 l0 x3_1).f0.f5), .bool false, .int .i64 0, .int .i64 0]) ?_ 6 _ rfl; (with_reducible repeat (first | refine blk_drewN ?_ _ | refine blk_drew ?_ | refine blk_alloc ?_ _)); refine blk_put (cs := #[.int .i64 ((rd_T29 l0 x3_1).f0.f0), .int .i64 ((rd_T29 l0 x3_1).f0.f1), .bool ((rd_T29 l0 x3_1).f0.f2), .int .i64 ((rd_T29 l0 x3_1).f0.f3), .int .i64 ((rd_T29 l0 x3_1).f0.f4), .int .i64 0, .bool false, .int .i64 0, .int .i64 0]) ?_ 5 _ rfl; (with_reducible repeat (first | refine blk_drewN ?_ _ | refine blk_drew ?_ | refine blk_alloc ?_ _)); refine blk_put (cs := #[.int .i64 ((rd_T29 l0 x3_1).f0.f0), .int .i64 ((rd_T29 l0 x3_1).f0.f1), .bool ((rd_T29 l0 x3_1).f0.f2), .int .i64 ((rd_T29 l0 x3_1).f0.f3), .int .i64 0, .int .i64 0, .bool false, .int .i64 0, .int .i64 0]) ?_ 4 _ rfl; (with_reducible repeat (first | refine blk_drewN ?_ _ | refine blk_drew ?_ | refine blk_alloc ?_ _)); refine blk_put (cs := #[.int .i64 ((rd_T29 l0 x3_1).f0.f0), .int .i64 ((rd_T29 l0 x3_1).f0.f1), .bool ((rd_T29 l0 x3_1).f0.f2), .int .i64 0, .int .i64 0, .int .i64 0, .bool false, .int .i64 0, .int .i64 0]) ?_ 3 _ rfl; (with_reducible repeat (first | refine blk_drewN ?_ _ | refine blk_drew ?_ | refine blk_alloc ?_ _)); refine blk_put (cs := #[.int .i64 ((rd_T29 l0 x3_1).f0.f0), .int .i64 ((rd_T29 l0 x3_1).f0.f1), .bool false, .int .i64 0, .int .i64 0, .int .i64 0, .bool false, .int .i64 0, .int .i64 0]) ?_ 2 _ rfl; (with_reducible repeat (first | refine blk_drewN ?_ _ | refine blk_drew ?_ | refine blk_alloc ?_ _)); refine blk_put (cs := #[.int .i64 ((rd_T29 l0 x3_1).f0.f0), .int .i64 0, .bool false, .int .i64 0, .int .i64 0, .int .i64 0, .bool false, .int .i64 0, .int .i64 0]) ?_ 1 _ rfl; (with_reducible repeat (first | refine blk_drewN ?_ _ | refine blk_drew ?_ | refine blk_alloc ?_ _)); refine blk_put (cs := #[.int .i64 0, .int .i64 0, .bool false, .int .i64 0, .int .i64 0, .int .i64 0, .bool false, .int .i64 0, .int .i64 0]) ?_ 0 _ rfl; (with_reducible repeat (first | refine blk_drewN ?_ _ | refine blk_drew ?_ | refine blk_alloc ?_ _)); exact BK151.out) hb); have n2_ := Aside0.mk (below_step (by repeat (first | (with_reducible first | exact HB.out | apply below_alloc | apply pw_below_drewN | apply below_drew1 | refine below_set ?_ GE151.out) | exact HB.out)) hb); clear BK151; clear HB; have HO156 := n0_; have BK151 := n1_; have HB := n2_; clear n0_ n1_ n2_; (try clear hb); (try clear hb2); (try clear hk); (try clear hi); (try clear ho0)) | ((with_reducible refine gate_dst (N := 5) rfl ?_); refine box_event ?hg (N := 5) ?hd (cs := #[.int .i64 0, .int .i64 0, .slice none 0 0, .int .i64 0]) (t := 31) ?hr ?_; (case hd => rfl); (case hg => rfl); (case hr => first | (go_simp; done) | (go_simp; rfl)); intro gb160 hg w123 hbox hb; have n0_ := Aside0.mk (Kd.R_below (by (with_reducible repeat (first | apply Kd.R_alloc | apply Kd.R_drewN | apply Kd.R_drew)); exact HO156.out) hb); have n1_ := Aside0.mk (blk_below (g := gb151) (o := .cells #[.int .i64 ((rd_T29 l0 x3_1).f0.f0), .int .i64 ((rd_T29 l0 x3_1).f0.f1), .bool ((rd_T29 l0 x3_1).f0.f2), .int .i64 ((rd_T29 l0 x3_1).f0.f3), .int .i64 ((rd_T29 l0 x3_1).f0.f4), .int .i64 ((rd_T29 l0 x3_1).f0.f5), .bool ((rd_T29 l0 x3_1).f0.f6), .int .i64 ((rd_T29 l0 x3_1).f0.f7), .int .i64 ((rd_T29 l0 x3_1).f0.f8)] 24 (0, 0)) (by (with_reducible repeat (first | refine blk_drewN ?_ _ | refine blk_drew ?_ | refine blk_alloc ?_ _)); exact BK151.out) hb); have n2_ := Aside0.mk (below_step (by repeat (first | (with_reducible first | exact HB.out | apply below_alloc | apply pw_below_drewN | apply below_drew1 | refine below_set ?_ GE151.out) | exact HB.out)) hb); have n3_ := Aside0.mk (hbox); have n4_ := Aside0.mk ((by rw [hg]; exact (below_size (by repeat (first | (with_reducible first | exact HB.out | apply below_alloc | apply pw_below_drewN | apply below_drew1 | refine below_set ?_ GE151.out) | exact HB.out))) : w.heap.size ≤ gb160)); have n5_ := Aside0.mk ((by rw [hg]; exact (below_size (by repeat (first | (with_reducible first | exact HB.out | apply below_alloc | apply pw_below_drewN | apply below_drew1 | refine below_set ?_ GE151.out) | exact HB.out))) : w.heap.size ≤ gb160)); have n6_ := Aside0.mk ((by rw [hg]; exact Nat.ne_of_lt (blk_lt (g := gb151) (o := .cells #[.int .i64 ((rd_T29 l0 x3_1).f0.f0), .int .i64 ((rd_T29 l0 x3_1).f0.f1), .bool ((rd_T29 l0 x3_1).f0.f2), .int .i64 ((rd_T29 l0 x3_1).f0.f3), .int .i64 ((rd_T29 l0 x3_1).f0.f4), .int .i64 ((rd_T29 l0 x3_1).f0.f5), .bool ((rd_T29 l0 x3_1).f0.f6), .int .i64 ((rd_T29 l0 x3_1).f0.f7), .int .i64 ((rd_T29 l0 x3_1).f0.f8)] 24 (0, 0)) (by (with_reducible repeat (first | refine blk_drewN ?_ _ | refine blk_drew ?_ | refine blk_alloc ?_ _)); exact BK151.out)) : gb151 ≠ gb160)); have n7_ := Aside0.mk ((by rw [hg]; exact Nat.ne_of_gt (blk_lt (g := gb151) (o := .cells #[.int .i64 ((rd_T29 l0 x3_1).f0.f0), .int .i64 ((rd_T29 l0 x3_1).f0.f1), .bool ((rd_T29 l0 x3_1).f0.f2), .int .i64 ((rd_T29 l0 x3_1).f0.f3), .int .i64 ((rd_T29 l0 x3_1).f0.f4), .int .i64 ((rd_T29 l0 x3_1).f0.f5), .bool ((rd_T29 l0 x3_1).f0.f6), .int .i64 ((rd_T29 l0 x3_1).f0.f7), .int .i64 ((rd_T29 l0 x3_1).f0.f8)] 24 (0, 0)) (by (with_reducible repeat (first | refine blk_drewN ?_ _ | refine blk_drew ?_ | refine blk_alloc ?_ _)); exact BK151.out)) : gb160 ≠ gb151)); clear HO156; clear BK151; clear HB; have HO156 := n0_; have BK151 := n1_; have HB := n2_; have BK160 := n3_; have GW160 := n4_; have GE160 := n5_; have NB151_160 := n6_; have NB160_151 := n7_; clear n0_ n1_ n2_ n3_ n4_ n5_ n6_ n7_; clear hb hbox hg; have hnb124 := NB160_151.out; have hnc124 := NB151_160.out; have hcz125_0 : w123.cell? ⟨gb160, 0, none⟩ = some (.int .i64 0) := (blk_cell BK160.out 0).trans rfl; have hcz125_1 : w123.cell? ⟨gb160, 1, none⟩ = some (.int .i64 0) := (blk_cell BK160.out 1).trans rfl; have hcz125_2 : w123.cell? ⟨gb160, 2, none⟩ = some (.slice none 0 0) := (blk_cell BK160.out 2).trans rfl; have hcz125_3 : w123.cell? ⟨gb160, 3, none⟩ = some (.int .i64 0) := (blk_cell BK160.out 3).trans rfl; have hfz125_0 := blk_frozen BK160.out 0; have hfz125_1 := blk_frozen BK160.out 1; have hfz125_2 := blk_frozen BK160.out 2; have hfz125_3 := blk_frozen BK160.out 3; obtain ⟨Ao126, co126, eo126⟩ := Kd.R_slice HO156.out; subst eo126; have hcz127_0 : w123.cell? ⟨gb151, 0, none⟩ = some (.int .i64 ((rd_T29 l0 x3_1).f0.f0)) := (blk_cell BK151.out 0).trans rfl; have hcz127_1 : w123.cell? ⟨gb151, 1, none⟩ = some (.int .i64 ((rd_T29 l0 x3_1).f0.f1)) := (blk_cell BK151.out 1).trans rfl; have hcz127_2 : w123.cell? ⟨gb151, 2, none⟩ = some (.bool ((rd_T29 l0 x3_1).f0.f2)) := (blk_cell BK151.out 2).trans rfl; have hcz127_3 : w123.cell? ⟨gb151, 3, none⟩ = some (.int .i64 ((rd_T29 l0 x3_1).f0.f3)) := (blk_cell BK151.out 3).trans rfl; have hcz127_4 : w123.cell? ⟨gb151, 4, none⟩ = some (.int .i64 ((rd_T29 l0 x3_1).f0.f4)) := (blk_cell BK151.out 4).trans rfl; have hcz127_5 : w123.cell? ⟨gb151, 5, none⟩ = some (.int .i64 ((rd_T29 l0 x3_1).f0.f5)) := (blk_cell BK151.out 5).trans rfl; have hcz127_6 : w123.cell? ⟨gb151, 6, none⟩ = some (.bool ((rd_T29 l0 x3_1).f0.f6)) := (blk_cell BK151.out 6).trans rfl; have hcz127_7 : w123.cell? ⟨gb151, 7, none⟩ = some (.int .i64 ((rd_T29 l0 x3_1).f0.f7)) := (blk_cell BK151.out 7).trans rfl; have hcz127_8 : w123.cell? ⟨gb151, 8, none⟩ = some (.int .i64 ((rd_T29 l0 x3_1).f0.f8)) := (blk_cell BK151.out 8).trans rfl; have hfz127_0 := blk_frozen BK151.out 0; have hfz127_1 := blk_frozen BK151.out 1; have hfz127_2 := blk_frozen BK151.out 2; have hfz127_3 := blk_frozen BK151.out 3; have hfz127_4 := blk_frozen BK151.out 4; have hfz127_5 := blk_frozen BK151.out 5; have hfz127_6 := blk_frozen BK151.out 6; have hfz127_7 := blk_frozen BK151.out 7; have hfz127_8 := blk_frozen BK151.out 8) | ((with_reducible refine gate_callee (f := 10) rfl ?_); refine goesL_ (some 32) rfl rfl Try.func10 (by kernel_rfl) rfl #[.agg #[.int .i64 ((rd_T29 l0 x3_1).f0.f0), .int .i64 ((rd_T29 l0 x3_1).f0.f1), .bool ((rd_T29 l0 x3_1).f0.f2), .int .i64 ((rd_T29 l0 x3_1).f0.f3), .int .i64 ((rd_T29 l0 x3_1).f0.f4), .int .i64 ((rd_T29 l0 x3_1).f0.f5), .bool ((rd_T29 l0 x3_1).f0.f6), .int .i64 ((rd_T29 l0 x3_1).f0.f7), .int .i64 ((rd_T29 l0 x3_1).f0.f8)]] rfl (by (try simp only [List.map_toArray, List.map_cons, List.map_nil]); first | done | rfl | (simp only [List.length_drop, List.length_take]; rfl)) ?_; (with_reducible refine (gimbalref9_May.calls kj1 ((rd_T29 l0 x3_1).f0.f0) ((rd_T29 l0 x3_1).f0.f1) ((rd_T29 l0 x3_1).f0.f2) ((rd_T29 l0 x3_1).f0.f3) ((rd_T29 l0 x3_1).f0.f4) ((rd_T29 l0 x3_1).f0.f5) ((rd_T29 l0 x3_1).f0.f6) ((rd_T29 l0 x3_1).f0.f7) ((rd_T29 l0 x3_1).f0.f8) false _ A8.out).mono ?_); rintro e w128 ⟨rfl, hb⟩; refine ⟨_, rfl, ?_⟩; have n0_ := Aside0.mk (Kd.R_below (by (with_reducible repeat (first | apply Kd.R_alloc | apply Kd.R_drewN | apply Kd.R_drew)); exact (Kd.R_mono (Kd.R_far (p := ⟨gb160, 3, none⟩) (Kd.R_far (p := ⟨gb160, 2, none⟩) (Kd.R_far (p := ⟨gb160, 1, none⟩) (Kd.R_far (p := ⟨gb160, 0, none⟩) (Kd.R_types HO156.out BK160.out (by decide)) (fun _ hk => hk.2) (.int .i64 t152)) (fun _ hk => hk.2) (.int .i64 t153)) (fun _ hk => hk.2) (.slice Ao126 t154.length co126)) (fun _ hk => hk.2) (.int .i64 t157)) (fun _ h_ => h_.1))) hb); have n1_ := Aside0.mk (blk_below (g := gb151) (o := .cells #[.int .i64 ((rd_T29 l0 x3_1).f0.f0), .int .i64 ((rd_T29 l0 x3_1).f0.f1), .bool ((rd_T29 l0 x3_1).f0.f2), .int .i64 ((rd_T29 l0 x3_1).f0.f3), .int .i64 ((rd_T29 l0 x3_1).f0.f4), .int .i64 ((rd_T29 l0 x3_1).f0.f5), .bool ((rd_T29 l0 x3_1).f0.f6), .int .i64 ((rd_T29 l0 x3_1).f0.f7), .int .i64 ((rd_T29 l0 x3_1).f0.f8)] 24 (0, 0)) (by (with_reducible repeat (first | refine blk_drewN ?_ _ | refine blk_drew ?_ | refine blk_alloc ?_ _)); refine blk_far ?_ NB151_160.out _; (with_reducible repeat (first | refine blk_drewN ?_ _ | refine blk_drew ?_ | refine blk_alloc ?_ _)); refine blk_far ?_ NB151_160.out _; (with_reducible repeat (first | refine blk_drewN ?_ _ | refine blk_drew ?_ | refine blk_alloc ?_ _)); refine blk_far ?_ NB151_160.out _; (with_reducible repeat (first | refine blk_drewN ?_ _ | refine blk_drew ?_ | refine blk_alloc ?_ _)); refine blk_far ?_ NB151_160.out _; (with_reducible repeat (first | refine blk_drewN ?_ _ | refine blk_drew ?_ | refine blk_alloc ?_ _)); exact BK151.out) hb); have n2_ := Aside0.mk (blk_below (g := gb160) (o := .cells #[.int .i64 t152, .int .i64 t153, .slice Ao126 t154.length co126, .int .i64 t157] 31 (0, 0)) (by (with_reducible repeat (first | refine blk_drewN ?_ _ | refine blk_drew ?_ | refine blk_alloc ?_ _)); refine blk_put (cs := #[.int .i64 t152, .int .i64 t153, .slice Ao126 t154.length co126, .int .i64 0]) ?_ 3 _ rfl; (with_reducible repeat (first | refine blk_drewN ?_ _ | refine blk_drew ?_ | refine blk_alloc ?_ _)); refine blk_put (cs := #[.int .i64 t152, .int .i64 t153, .slice none 0 0, .int .i64 0]) ?_ 2 _ rfl; (with_reducible repeat (first | refine blk_drewN ?_ _ | refine blk_drew ?_ | refine blk_alloc ?_ _)); refine blk_put (cs := #[.int .i64 t152, .int .i64 0, .slice none 0 0, .int .i64 0]) ?_ 1 _ rfl; (with_reducible repeat (first | refine blk_drewN ?_ _ | refine blk_drew ?_ | refine blk_alloc ?_ _)); refine blk_put (cs := #[.int .i64 0, .int .i64 0, .slice none 0 0, .int .i64 0]) ?_ 0 _ rfl; (with_reducible repeat (first | refine blk_drewN ?_ _ | refine blk_drew ?_ | refine blk_alloc ?_ _)); exact BK160.out) hb); have n3_ := Aside0.mk (below_step (by repeat (first | (with_reducible first | exact HB.out | apply below_alloc | apply pw_below_drewN | apply below_drew1 | refine below_set ?_ GE151.out | refine below_set ?_ GE160.out) | exact HB.out)) hb); clear HO156; clear BK151; clear BK160; clear HB; have HO156 := n0_; have BK151 := n1_; have BK160 := n2_; have HB := n3_; clear n0_ n1_ n2_ n3_; (try clear hb); (try clear hb2); (try clear hk); (try clear hi)) | ((with_reducible refine gate_callee (f := 11) rfl ?_); refine goesL_ (some 35) rfl rfl Try.func11 (by kernel_rfl) rfl #[.int .i64 t159] rfl (by (try simp only [List.map_toArray, List.map_cons, List.map_nil]); first | done | rfl | (simp only [List.length_drop, List.length_take]; rfl)) ?_; (with_reducible refine (gimballaw9_num.calls t159 t162 _ A106.out).mono ?_); rintro e w' ⟨rfl, ⟨nd, rfl⟩⟩; refine ⟨_, rfl, ?_⟩; have hcz129_0 : w128.cell? ⟨gb160, 0, none⟩ = some (.int .i64 t152) := (blk_cell BK160.out 0).trans rfl; have hcz129_1 : w128.cell? ⟨gb160, 1, none⟩ = some (.int .i64 t153) := (blk_cell BK160.out 1).trans rfl; have hcz129_2 : w128.cell? ⟨gb160, 2, none⟩ = some (.slice Ao126 t154.length co126) := (blk_cell BK160.out 2).trans rfl; have hcz129_3 : w128.cell? ⟨gb160, 3, none⟩ = some (.int .i64 t157) := (blk_cell BK160.out 3).trans rfl; have hfz129_0 := blk_frozen BK160.out 0; have hfz129_1 := blk_frozen BK160.out 1; have hfz129_2 := blk_frozen BK160.out 2; have hfz129_3 := blk_frozen BK160.out 3) | (go_at_call 12; (refine (gimbalref0_EqTx.calls kj1 t152 t153 _ _ t154 t157 0 0 _ _ ([] : List Int) 0 true _ ?side1 ?side2 ?side3 ?side4 A118.out).mono ?_); (case side1 => repeat (first | exact (Kd.R_reads' HO156.out).2.2 | (with_reducible refine Kd.C_alloc ?_ _) | (with_reducible refine Kd.C_drewN ?_ _) | (with_reducible refine Kd.C_drew ?_))); (case side2 => exact (Kd.R_reads' HO156.out).2.1); (case side3 => exact Kd.C_nil _ _); (case side4 => exact Nat.le_refl _); rintro e w130 ⟨rfl, hb⟩; have n0_ := Aside0.mk (Kd.R_below (by (with_reducible repeat (first | apply Kd.R_alloc | apply Kd.R_drewN | apply Kd.R_drew)); exact HO156.out) hb); have n1_ := Aside0.mk (blk_below (g := gb151) (o := .cells #[.int .i64 ((rd_T29 l0 x3_1).f0.f0), .int .i64 ((rd_T29 l0 x3_1).f0.f1), .bool ((rd_T29 l0 x3_1).f0.f2), .int .i64 ((rd_T29 l0 x3_1).f0.f3), .int .i64 ((rd_T29 l0 x3_1).f0.f4), .int .i64 ((rd_T29 l0 x3_1).f0.f5), .bool ((rd_T29 l0 x3_1).f0.f6), .int .i64 ((rd_T29 l0 x3_1).f0.f7), .int .i64 ((rd_T29 l0 x3_1).f0.f8)] 24 (0, 0)) (by (with_reducible repeat (first | refine blk_drewN ?_ _ | refine blk_drew ?_ | refine blk_alloc ?_ _)); exact BK151.out) hb); have n2_ := Aside0.mk (blk_below (g := gb160) (o := .cells #[.int .i64 t152, .int .i64 t153, .slice Ao126 t154.length co126, .int .i64 t157] 31 (0, 0)) (by (with_reducible repeat (first | refine blk_drewN ?_ _ | refine blk_drew ?_ | refine blk_alloc ?_ _)); exact BK160.out) hb); have n3_ := Aside0.mk (below_step (by repeat (first | (with_reducible first | exact HB.out | apply below_alloc | apply pw_below_drewN | apply below_drew1 | refine below_set ?_ GE151.out | refine below_set ?_ GE160.out) | exact HB.out)) hb); clear HO156; clear BK151; clear BK160; clear HB; have HO156 := n0_; have BK151 := n1_; have BK160 := n2_; have HB := n3_; clear n0_ n1_ n2_ n3_; (try clear hb); (try clear hb2); (try clear hk); (try clear hi)))
                        go_roundg kj1
                        case measure => have := HK1.out; have := HJ1.out; omega
                        case rel => exact ⟨(wrap64 (x3_1 + 1)), (by first | rfl | (simp; done) | (simp [*]; done)), H', ⟨by have := HK1.out; have := HJ1.out; omega⟩, ⟨by repeat (first | (with_reducible first | exact HB.out | apply below_alloc | apply pw_below_drewN | apply below_drew1 | refine below_set ?_ GE151.out | refine below_set ?_ GE160.out) | exact HB.out)⟩⟩
                      · replace c119 := Bool.eq_false_iff.mpr c119
                        subst c119
                        have H1 : (some false) = some r := by rw [if_neg (show ¬ (false = true) by decide)] at H; exact H
                        clear H
                        have H := H1
                        clear H1
                        obtain rfl := Option.some.inj H
                        have p150 : 0 ≤ (x3_1 : Int) := of_decide_eq_true (by first | (with_reducible assumption) | assumption)
                        have q150 : x3_1 < (l0.length : Int) := of_decide_eq_true (by first | (with_reducible assumption) | assumption)
                        obtain ⟨ad150, A150_12, c150_12, e150, hx150_0, hx150_1, hx150_2, hx150_3, hx150_4, hx150_5, hx150_6, hx150_7, hx150_8, hx150_9, hx150_10, hx150_11, hx150_12, hl150_12, hi150_12⟩ := at_T29 HR0.out x3_1 p150 q150
                        cases e150
                        replace hx150_0 := (HB.out.cell (World.block_lt_of_cell? w _ hx150_0)).trans hx150_0
                        replace hx150_1 := (HB.out.cell (World.block_lt_of_cell? w _ hx150_1)).trans hx150_1
                        replace hx150_2 := (HB.out.cell (World.block_lt_of_cell? w _ hx150_2)).trans hx150_2
                        replace hx150_3 := (HB.out.cell (World.block_lt_of_cell? w _ hx150_3)).trans hx150_3
                        replace hx150_4 := (HB.out.cell (World.block_lt_of_cell? w _ hx150_4)).trans hx150_4
                        replace hx150_5 := (HB.out.cell (World.block_lt_of_cell? w _ hx150_5)).trans hx150_5
                        replace hx150_6 := (HB.out.cell (World.block_lt_of_cell? w _ hx150_6)).trans hx150_6
                        replace hx150_7 := (HB.out.cell (World.block_lt_of_cell? w _ hx150_7)).trans hx150_7
                        replace hx150_8 := (HB.out.cell (World.block_lt_of_cell? w _ hx150_8)).trans hx150_8
                        replace hx150_9 := (HB.out.cell (World.block_lt_of_cell? w _ hx150_9)).trans hx150_9
                        replace hx150_10 := (HB.out.cell (World.block_lt_of_cell? w _ hx150_10)).trans hx150_10
                        replace hx150_11 := (HB.out.cell (World.block_lt_of_cell? w _ hx150_11)).trans hx150_11
                        replace hx150_12 := (HB.out.cell (World.block_lt_of_cell? w _ hx150_12)).trans hx150_12
                        have HR150_12 := Aside0.mk hi150_12
                        have HC150_12 := Aside0.mk hl150_12
                        clear hi150_12 hl150_12
                        replace p150 := eq_true p150
                        replace q150 := eq_true q150
                        go_wp2_with (first | ((with_reducible refine gate_dst (N := 4) rfl ?_); refine box_event ?hg (N := 4) ?hd (cs := #[.int .i64 0, .int .i64 0, .bool false, .int .i64 0, .int .i64 0, .int .i64 0, .bool false, .int .i64 0, .int .i64 0]) (t := 24) ?hr ?_; (case hd => rfl); (case hg => rfl); (case hr => first | (go_simp; done) | (go_simp; rfl)); intro gb151 hg w131 hbox hb; have n0_ := Aside0.mk (below_step (by repeat (first | (with_reducible first | exact HB.out | apply below_alloc | apply pw_below_drewN | apply below_drew1) | exact HB.out)) hb); have n1_ := Aside0.mk (hbox); have n2_ := Aside0.mk ((by rw [hg]; exact (below_size (by repeat (first | (with_reducible first | exact HB.out | apply below_alloc | apply pw_below_drewN | apply below_drew1) | exact HB.out))) : w.heap.size ≤ gb151)); have n3_ := Aside0.mk ((by rw [hg]; exact (below_size (by repeat (first | (with_reducible first | exact HB.out | apply below_alloc | apply pw_below_drewN | apply below_drew1) | exact HB.out))) : w.heap.size ≤ gb151)); clear HB; have HB := n0_; have BK151 := n1_; have GW151 := n2_; have GE151 := n3_; clear n0_ n1_ n2_ n3_; clear hb hbox hg; have hcz132_0 : w131.cell? ⟨gb151, 0, none⟩ = some (.int .i64 0) := (blk_cell BK151.out 0).trans rfl; have hcz132_1 : w131.cell? ⟨gb151, 1, none⟩ = some (.int .i64 0) := (blk_cell BK151.out 1).trans rfl; have hcz132_2 : w131.cell? ⟨gb151, 2, none⟩ = some (.bool false) := (blk_cell BK151.out 2).trans rfl; have hcz132_3 : w131.cell? ⟨gb151, 3, none⟩ = some (.int .i64 0) := (blk_cell BK151.out 3).trans rfl; have hcz132_4 : w131.cell? ⟨gb151, 4, none⟩ = some (.int .i64 0) := (blk_cell BK151.out 4).trans rfl; have hcz132_5 : w131.cell? ⟨gb151, 5, none⟩ = some (.int .i64 0) := (blk_cell BK151.out 5).trans rfl; have hcz132_6 : w131.cell? ⟨gb151, 6, none⟩ = some (.bool false) := (blk_cell BK151.out 6).trans rfl; have hcz132_7 : w131.cell? ⟨gb151, 7, none⟩ = some (.int .i64 0) := (blk_cell BK151.out 7).trans rfl; have hcz132_8 : w131.cell? ⟨gb151, 8, none⟩ = some (.int .i64 0) := (blk_cell BK151.out 8).trans rfl; have hfz132_0 := blk_frozen BK151.out 0; have hfz132_1 := blk_frozen BK151.out 1; have hfz132_2 := blk_frozen BK151.out 2; have hfz132_3 := blk_frozen BK151.out 3; have hfz132_4 := blk_frozen BK151.out 4; have hfz132_5 := blk_frozen BK151.out 5; have hfz132_6 := blk_frozen BK151.out 6; have hfz132_7 := blk_frozen BK151.out 7; have hfz132_8 := blk_frozen BK151.out 8) | ((with_reducible refine gate_callee (f := 9) rfl ?_); refine goesL_ (some 27) rfl rfl Try.func9 (by kernel_rfl) rfl #[.agg #[.int .i64 ((rd_T29 l0 x3_1).f0.f0), .int .i64 ((rd_T29 l0 x3_1).f0.f1), .bool ((rd_T29 l0 x3_1).f0.f2), .int .i64 ((rd_T29 l0 x3_1).f0.f3), .int .i64 ((rd_T29 l0 x3_1).f0.f4), .int .i64 ((rd_T29 l0 x3_1).f0.f5), .bool ((rd_T29 l0 x3_1).f0.f6), .int .i64 ((rd_T29 l0 x3_1).f0.f7), .int .i64 ((rd_T29 l0 x3_1).f0.f8)]] rfl (by (try simp only [List.map_toArray, List.map_cons, List.map_nil]); first | done | rfl | (simp only [List.length_drop, List.length_take]; rfl)) ?_; (with_reducible refine (drv_Next.calls ((rd_T29 l0 x3_1).f0.f0) ((rd_T29 l0 x3_1).f0.f1) ((rd_T29 l0 x3_1).f0.f2) ((rd_T29 l0 x3_1).f0.f3) ((rd_T29 l0 x3_1).f0.f4) ((rd_T29 l0 x3_1).f0.f5) ((rd_T29 l0 x3_1).f0.f6) ((rd_T29 l0 x3_1).f0.f7) ((rd_T29 l0 x3_1).f0.f8) t152 t153 t154 t157 false t159 _ A7.out).mono ?_); rintro e w133 ⟨v155, rfl, ho0, hb⟩; refine ⟨_, rfl, ?_⟩; have n0_ := Aside0.mk (Kd.R_lower ho0 (below_size (by repeat (first | (with_reducible first | exact HB.out | apply below_alloc | apply pw_below_drewN | apply below_drew1 | refine below_set ?_ GE151.out) | exact HB.out)))); have n1_ := Aside0.mk (blk_below (g := gb151) (o := .cells #[.int .i64 ((rd_T29 l0 x3_1).f0.f0), .int .i64 ((rd_T29 l0 x3_1).f0.f1), .bool ((rd_T29 l0 x3_1).f0.f2), .int .i64 ((rd_T29 l0 x3_1).f0.f3), .int .i64 ((rd_T29 l0 x3_1).f0.f4), .int .i64 ((rd_T29 l0 x3_1).f0.f5), .bool ((rd_T29 l0 x3_1).f0.f6), .int .i64 ((rd_T29 l0 x3_1).f0.f7), .int .i64 ((rd_T29 l0 x3_1).f0.f8)] 24 (0, 0)) (by (with_reducible repeat (first | refine blk_drewN ?_ _ | refine blk_drew ?_ | refine blk_alloc ?_ _)); refine blk_put (cs := #[.int .i64 ((rd_T29 l0 x3_1).f0.f0), .int .i64 ((rd_T29 l0 x3_1).f0.f1), .bool ((rd_T29 l0 x3_1).f0.f2), .int .i64 ((rd_T29 l0 x3_1).f0.f3), .int .i64 ((rd_T29 l0 x3_1).f0.f4), .int .i64 ((rd_T29 l0 x3_1).f0.f5), .bool ((rd_T29 l0 x3_1).f0.f6), .int .i64 ((rd_T29 l0 x3_1).f0.f7), .int .i64 0]) ?_ 8 _ rfl; (with_reducible repeat (first | refine blk_drewN ?_ _ | refine blk_drew ?_ | refine blk_alloc ?_ _)); refine blk_put (cs := #[.int .i64 ((rd_T29 l0 x3_1).f0.f0), .int .i64 ((rd_T29 l0 x3_1).f0.f1), .bool ((rd_T29 l0 x3_1).f0.f2), .int .i64 ((rd_T29 l0 x3_1).f0.f3), .int .i64 ((rd_T29 l0 x3_1).f0.f4), .int .i64 ((rd_T29 l0 x3_1).f0.f5), .bool ((rd_T29 l0 x3_1).f0.f6), .int .i64 0, .int .i64 0]) ?_ 7 _ rfl; (with_reducible repeat (first | refine blk_drewN ?_ _ | refine blk_drew ?_ | refine blk_alloc ?_ _)); refine blk_put (cs := #[.int .i64 ((rd_T29 l0 x3_1).f0.f0), .int .i64 ((rd_T29 l0 x3_1).f0.f1), .bool ((rd_T29 l0 x3_1).f0.f2), .int .i64 ((rd_T29 l0 x3_1).f0.f3), .int .i64 ((rd_T29 l0 x3_1).f0.f4), .int .i64 ((rd_T29 l0 x3_1).f0.f5), .bool false, .int .i64 0, .int .i64 0]) ?_ 6 _ rfl; (with_reducible repeat (first | refine blk_drewN ?_ _ | refine blk_drew ?_ | refine blk_alloc ?_ _)); refine blk_put (cs := #[.int .i64 ((rd_T29 l0 x3_1).f0.f0), .int .i64 ((rd_T29 l0 x3_1).f0.f1), .bool ((rd_T29 l0 x3_1).f0.f2), .int .i64 ((rd_T29 l0 x3_1).f0.f3), .int .i64 ((rd_T29 l0 x3_1).f0.f4), .int .i64 0, .bool false, .int .i64 0, .int .i64 0]) ?_ 5 _ rfl; (with_reducible repeat (first | refine blk_drewN ?_ _ | refine blk_drew ?_ | refine blk_alloc ?_ _)); refine blk_put (cs := #[.int .i64 ((rd_T29 l0 x3_1).f0.f0), .int .i64 ((rd_T29 l0 x3_1).f0.f1), .bool ((rd_T29 l0 x3_1).f0.f2), .int .i64 ((rd_T29 l0 x3_1).f0.f3), .int .i64 0, .int .i64 0, .bool false, .int .i64 0, .int .i64 0]) ?_ 4 _ rfl; (with_reducible repeat (first | refine blk_drewN ?_ _ | refine blk_drew ?_ | refine blk_alloc ?_ _)); refine blk_put (cs := #[.int .i64 ((rd_T29 l0 x3_1).f0.f0), .int .i64 ((rd_T29 l0 x3_1).f0.f1), .bool ((rd_T29 l0 x3_1).f0.f2), .int .i64 0, .int .i64 0, .int .i64 0, .bool false, .int .i64 0, .int .i64 0]) ?_ 3 _ rfl; (with_reducible repeat (first | refine blk_drewN ?_ _ | refine blk_drew ?_ | refine blk_alloc ?_ _)); refine blk_put (cs := #[.int .i64 ((rd_T29 l0 x3_1).f0.f0), .int .i64 ((rd_T29 l0 x3_1).f0.f1), .bool false, .int .i64 0, .int .i64 0, .int .i64 0, .bool false, .int .i64 0, .int .i64 0]) ?_ 2 _ rfl; (with_reducible repeat (first | refine blk_drewN ?_ _ | refine blk_drew ?_ | refine blk_alloc ?_ _)); refine blk_put (cs := #[.int .i64 ((rd_T29 l0 x3_1).f0.f0), .int .i64 0, .bool false, .int .i64 0, .int .i64 0, .int .i64 0, .bool false, .int .i64 0, .int .i64 0]) ?_ 1 _ rfl; (with_reducible repeat (first | refine blk_drewN ?_ _ | refine blk_drew ?_ | refine blk_alloc ?_ _)); refine blk_put (cs := #[.int .i64 0, .int .i64 0, .bool false, .int .i64 0, .int .i64 0, .int .i64 0, .bool false, .int .i64 0, .int .i64 0]) ?_ 0 _ rfl; (with_reducible repeat (first | refine blk_drewN ?_ _ | refine blk_drew ?_ | refine blk_alloc ?_ _)); exact BK151.out) hb); have n2_ := Aside0.mk (below_step (by repeat (first | (with_reducible first | exact HB.out | apply below_alloc | apply pw_below_drewN | apply below_drew1 | refine below_set ?_ GE151.out) | exact HB.out)) hb); clear BK151; clear HB; have HO156 := n0_; have BK151 := n1_; have HB := n2_; clear n0_ n1_ n2_; (try clear hb); (try clear hb2); (try clear hk); (try clear hi); (try clear ho0)) | ((with_reducible refine gate_dst (N := 5) rfl ?_); refine box_event ?hg (N := 5) ?hd (cs := #[.int .i64 0, .int .i64 0, .slice none 0 0, .int .i64 0]) (t := 31) ?hr ?_; (case hd => rfl); (case hg => rfl); (case hr => first | (go_simp; done) | (go_simp; rfl)); intro gb160 hg w134 hbox hb; have n0_ := Aside0.mk (Kd.R_below (by (with_reducible repeat (first | apply Kd.R_alloc | apply Kd.R_drewN | apply Kd.R_drew)); exact HO156.out) hb); have n1_ := Aside0.mk (blk_below (g := gb151) (o := .cells #[.int .i64 ((rd_T29 l0 x3_1).f0.f0), .int .i64 ((rd_T29 l0 x3_1).f0.f1), .bool ((rd_T29 l0 x3_1).f0.f2), .int .i64 ((rd_T29 l0 x3_1).f0.f3), .int .i64 ((rd_T29 l0 x3_1).f0.f4), .int .i64 ((rd_T29 l0 x3_1).f0.f5), .bool ((rd_T29 l0 x3_1).f0.f6), .int .i64 ((rd_T29 l0 x3_1).f0.f7), .int .i64 ((rd_T29 l0 x3_1).f0.f8)] 24 (0, 0)) (by (with_reducible repeat (first | refine blk_drewN ?_ _ | refine blk_drew ?_ | refine blk_alloc ?_ _)); exact BK151.out) hb); have n2_ := Aside0.mk (below_step (by repeat (first | (with_reducible first | exact HB.out | apply below_alloc | apply pw_below_drewN | apply below_drew1 | refine below_set ?_ GE151.out) | exact HB.out)) hb); have n3_ := Aside0.mk (hbox); have n4_ := Aside0.mk ((by rw [hg]; exact (below_size (by repeat (first | (with_reducible first | exact HB.out | apply below_alloc | apply pw_below_drewN | apply below_drew1 | refine below_set ?_ GE151.out) | exact HB.out))) : w.heap.size ≤ gb160)); have n5_ := Aside0.mk ((by rw [hg]; exact (below_size (by repeat (first | (with_reducible first | exact HB.out | apply below_alloc | apply pw_below_drewN | apply below_drew1 | refine below_set ?_ GE151.out) | exact HB.out))) : w.heap.size ≤ gb160)); have n6_ := Aside0.mk ((by rw [hg]; exact Nat.ne_of_lt (blk_lt (g := gb151) (o := .cells #[.int .i64 ((rd_T29 l0 x3_1).f0.f0), .int .i64 ((rd_T29 l0 x3_1).f0.f1), .bool ((rd_T29 l0 x3_1).f0.f2), .int .i64 ((rd_T29 l0 x3_1).f0.f3), .int .i64 ((rd_T29 l0 x3_1).f0.f4), .int .i64 ((rd_T29 l0 x3_1).f0.f5), .bool ((rd_T29 l0 x3_1).f0.f6), .int .i64 ((rd_T29 l0 x3_1).f0.f7), .int .i64 ((rd_T29 l0 x3_1).f0.f8)] 24 (0, 0)) (by (with_reducible repeat (first | refine blk_drewN ?_ _ | refine blk_drew ?_ | refine blk_alloc ?_ _)); exact BK151.out)) : gb151 ≠ gb160)); have n7_ := Aside0.mk ((by rw [hg]; exact Nat.ne_of_gt (blk_lt (g := gb151) (o := .cells #[.int .i64 ((rd_T29 l0 x3_1).f0.f0), .int .i64 ((rd_T29 l0 x3_1).f0.f1), .bool ((rd_T29 l0 x3_1).f0.f2), .int .i64 ((rd_T29 l0 x3_1).f0.f3), .int .i64 ((rd_T29 l0 x3_1).f0.f4), .int .i64 ((rd_T29 l0 x3_1).f0.f5), .bool ((rd_T29 l0 x3_1).f0.f6), .int .i64 ((rd_T29 l0 x3_1).f0.f7), .int .i64 ((rd_T29 l0 x3_1).f0.f8)] 24 (0, 0)) (by (with_reducible repeat (first | refine blk_drewN ?_ _ | refine blk_drew ?_ | refine blk_alloc ?_ _)); exact BK151.out)) : gb160 ≠ gb151)); clear HO156; clear BK151; clear HB; have HO156 := n0_; have BK151 := n1_; have HB := n2_; have BK160 := n3_; have GW160 := n4_; have GE160 := n5_; have NB151_160 := n6_; have NB160_151 := n7_; clear n0_ n1_ n2_ n3_ n4_ n5_ n6_ n7_; clear hb hbox hg; have hnb135 := NB160_151.out; have hnc135 := NB151_160.out; have hcz136_0 : w134.cell? ⟨gb160, 0, none⟩ = some (.int .i64 0) := (blk_cell BK160.out 0).trans rfl; have hcz136_1 : w134.cell? ⟨gb160, 1, none⟩ = some (.int .i64 0) := (blk_cell BK160.out 1).trans rfl; have hcz136_2 : w134.cell? ⟨gb160, 2, none⟩ = some (.slice none 0 0) := (blk_cell BK160.out 2).trans rfl; have hcz136_3 : w134.cell? ⟨gb160, 3, none⟩ = some (.int .i64 0) := (blk_cell BK160.out 3).trans rfl; have hfz136_0 := blk_frozen BK160.out 0; have hfz136_1 := blk_frozen BK160.out 1; have hfz136_2 := blk_frozen BK160.out 2; have hfz136_3 := blk_frozen BK160.out 3; obtain ⟨Ao137, co137, eo137⟩ := Kd.R_slice HO156.out; subst eo137; have hcz138_0 : w134.cell? ⟨gb151, 0, none⟩ = some (.int .i64 ((rd_T29 l0 x3_1).f0.f0)) := (blk_cell BK151.out 0).trans rfl; have hcz138_1 : w134.cell? ⟨gb151, 1, none⟩ = some (.int .i64 ((rd_T29 l0 x3_1).f0.f1)) := (blk_cell BK151.out 1).trans rfl; have hcz138_2 : w134.cell? ⟨gb151, 2, none⟩ = some (.bool ((rd_T29 l0 x3_1).f0.f2)) := (blk_cell BK151.out 2).trans rfl; have hcz138_3 : w134.cell? ⟨gb151, 3, none⟩ = some (.int .i64 ((rd_T29 l0 x3_1).f0.f3)) := (blk_cell BK151.out 3).trans rfl; have hcz138_4 : w134.cell? ⟨gb151, 4, none⟩ = some (.int .i64 ((rd_T29 l0 x3_1).f0.f4)) := (blk_cell BK151.out 4).trans rfl; have hcz138_5 : w134.cell? ⟨gb151, 5, none⟩ = some (.int .i64 ((rd_T29 l0 x3_1).f0.f5)) := (blk_cell BK151.out 5).trans rfl; have hcz138_6 : w134.cell? ⟨gb151, 6, none⟩ = some (.bool ((rd_T29 l0 x3_1).f0.f6)) := (blk_cell BK151.out 6).trans rfl; have hcz138_7 : w134.cell? ⟨gb151, 7, none⟩ = some (.int .i64 ((rd_T29 l0 x3_1).f0.f7)) := (blk_cell BK151.out 7).trans rfl; have hcz138_8 : w134.cell? ⟨gb151, 8, none⟩ = some (.int .i64 ((rd_T29 l0 x3_1).f0.f8)) := (blk_cell BK151.out 8).trans rfl; have hfz138_0 := blk_frozen BK151.out 0; have hfz138_1 := blk_frozen BK151.out 1; have hfz138_2 := blk_frozen BK151.out 2; have hfz138_3 := blk_frozen BK151.out 3; have hfz138_4 := blk_frozen BK151.out 4; have hfz138_5 := blk_frozen BK151.out 5; have hfz138_6 := blk_frozen BK151.out 6; have hfz138_7 := blk_frozen BK151.out 7; have hfz138_8 := blk_frozen BK151.out 8) | ((with_reducible refine gate_callee (f := 10) rfl ?_); refine goesL_ (some 32) rfl rfl Try.func10 (by kernel_rfl) rfl #[.agg #[.int .i64 ((rd_T29 l0 x3_1).f0.f0), .int .i64 ((rd_T29 l0 x3_1).f0.f1), .bool ((rd_T29 l0 x3_1).f0.f2), .int .i64 ((rd_T29 l0 x3_1).f0.f3), .int .i64 ((rd_T29 l0 x3_1).f0.f4), .int .i64 ((rd_T29 l0 x3_1).f0.f5), .bool ((rd_T29 l0 x3_1).f0.f6), .int .i64 ((rd_T29 l0 x3_1).f0.f7), .int .i64 ((rd_T29 l0 x3_1).f0.f8)]] rfl (by (try simp only [List.map_toArray, List.map_cons, List.map_nil]); first | done | rfl | (simp only [List.length_drop, List.length_take]; rfl)) ?_; (with_reducible refine (gimbalref9_May.calls kj1 ((rd_T29 l0 x3_1).f0.f0) ((rd_T29 l0 x3_1).f0.f1) ((rd_T29 l0 x3_1).f0.f2) ((rd_T29 l0 x3_1).f0.f3) ((rd_T29 l0 x3_1).f0.f4) ((rd_T29 l0 x3_1).f0.f5) ((rd_T29 l0 x3_1).f0.f6) ((rd_T29 l0 x3_1).f0.f7) ((rd_T29 l0 x3_1).f0.f8) false _ A8.out).mono ?_); rintro e w139 ⟨rfl, hb⟩; refine ⟨_, rfl, ?_⟩; have n0_ := Aside0.mk (Kd.R_below (by (with_reducible repeat (first | apply Kd.R_alloc | apply Kd.R_drewN | apply Kd.R_drew)); exact (Kd.R_mono (Kd.R_far (p := ⟨gb160, 3, none⟩) (Kd.R_far (p := ⟨gb160, 2, none⟩) (Kd.R_far (p := ⟨gb160, 1, none⟩) (Kd.R_far (p := ⟨gb160, 0, none⟩) (Kd.R_types HO156.out BK160.out (by decide)) (fun _ hk => hk.2) (.int .i64 t152)) (fun _ hk => hk.2) (.int .i64 t153)) (fun _ hk => hk.2) (.slice Ao137 t154.length co137)) (fun _ hk => hk.2) (.int .i64 t157)) (fun _ h_ => h_.1))) hb); have n1_ := Aside0.mk (blk_below (g := gb151) (o := .cells #[.int .i64 ((rd_T29 l0 x3_1).f0.f0), .int .i64 ((rd_T29 l0 x3_1).f0.f1), .bool ((rd_T29 l0 x3_1).f0.f2), .int .i64 ((rd_T29 l0 x3_1).f0.f3), .int .i64 ((rd_T29 l0 x3_1).f0.f4), .int .i64 ((rd_T29 l0 x3_1).f0.f5), .bool ((rd_T29 l0 x3_1).f0.f6), .int .i64 ((rd_T29 l0 x3_1).f0.f7), .int .i64 ((rd_T29 l0 x3_1).f0.f8)] 24 (0, 0)) (by (with_reducible repeat (first | refine blk_drewN ?_ _ | refine blk_drew ?_ | refine blk_alloc ?_ _)); refine blk_far ?_ NB151_160.out _; (with_reducible repeat (first | refine blk_drewN ?_ _ | refine blk_drew ?_ | refine blk_alloc ?_ _)); refine blk_far ?_ NB151_160.out _; (with_reducible repeat (first | refine blk_drewN ?_ _ | refine blk_drew ?_ | refine blk_alloc ?_ _)); refine blk_far ?_ NB151_160.out _; (with_reducible repeat (first | refine blk_drewN ?_ _ | refine blk_drew ?_ | refine blk_alloc ?_ _)); refine blk_far ?_ NB151_160.out _; (with_reducible repeat (first | refine blk_drewN ?_ _ | refine blk_drew ?_ | refine blk_alloc ?_ _)); exact BK151.out) hb); have n2_ := Aside0.mk (blk_below (g := gb160) (o := .cells #[.int .i64 t152, .int .i64 t153, .slice Ao137 t154.length co137, .int .i64 t157] 31 (0, 0)) (by (with_reducible repeat (first | refine blk_drewN ?_ _ | refine blk_drew ?_ | refine blk_alloc ?_ _)); refine blk_put (cs := #[.int .i64 t152, .int .i64 t153, .slice Ao137 t154.length co137, .int .i64 0]) ?_ 3 _ rfl; (with_reducible repeat (first | refine blk_drewN ?_ _ | refine blk_drew ?_ | refine blk_alloc ?_ _)); refine blk_put (cs := #[.int .i64 t152, .int .i64 t153, .slice none 0 0, .int .i64 0]) ?_ 2 _ rfl; (with_reducible repeat (first | refine blk_drewN ?_ _ | refine blk_drew ?_ | refine blk_alloc ?_ _)); refine blk_put (cs := #[.int .i64 t152, .int .i64 0, .slice none 0 0, .int .i64 0]) ?_ 1 _ rfl; (with_reducible repeat (first | refine blk_drewN ?_ _ | refine blk_drew ?_ | refine blk_alloc ?_ _)); refine blk_put (cs := #[.int .i64 0, .int .i64 0, .slice none 0 0, .int .i64 0]) ?_ 0 _ rfl; (with_reducible repeat (first | refine blk_drewN ?_ _ | refine blk_drew ?_ | refine blk_alloc ?_ _)); exact BK160.out) hb); have n3_ := Aside0.mk (below_step (by repeat (first | (with_reducible first | exact HB.out | apply below_alloc | apply pw_below_drewN | apply below_drew1 | refine below_set ?_ GE151.out | refine below_set ?_ GE160.out) | exact HB.out)) hb); clear HO156; clear BK151; clear BK160; clear HB; have HO156 := n0_; have BK151 := n1_; have BK160 := n2_; have HB := n3_; clear n0_ n1_ n2_ n3_; (try clear hb); (try clear hb2); (try clear hk); (try clear hi)) | ((with_reducible refine gate_callee (f := 11) rfl ?_); refine goesL_ (some 35) rfl rfl Try.func11 (by kernel_rfl) rfl #[.int .i64 t159] rfl (by (try simp only [List.map_toArray, List.map_cons, List.map_nil]); first | done | rfl | (simp only [List.length_drop, List.length_take]; rfl)) ?_; (with_reducible refine (gimballaw9_num.calls t159 t162 _ A106.out).mono ?_); rintro e w' ⟨rfl, ⟨nd, rfl⟩⟩; refine ⟨_, rfl, ?_⟩; have hcz140_0 : w139.cell? ⟨gb160, 0, none⟩ = some (.int .i64 t152) := (blk_cell BK160.out 0).trans rfl; have hcz140_1 : w139.cell? ⟨gb160, 1, none⟩ = some (.int .i64 t153) := (blk_cell BK160.out 1).trans rfl; have hcz140_2 : w139.cell? ⟨gb160, 2, none⟩ = some (.slice Ao137 t154.length co137) := (blk_cell BK160.out 2).trans rfl; have hcz140_3 : w139.cell? ⟨gb160, 3, none⟩ = some (.int .i64 t157) := (blk_cell BK160.out 3).trans rfl; have hfz140_0 := blk_frozen BK160.out 0; have hfz140_1 := blk_frozen BK160.out 1; have hfz140_2 := blk_frozen BK160.out 2; have hfz140_3 := blk_frozen BK160.out 3) | (go_at_call 12; (refine (gimbalref0_EqTx.calls kj1 t152 t153 _ _ t154 t157 0 0 _ _ ([] : List Int) 0 false _ ?side1 ?side2 ?side3 ?side4 A118.out).mono ?_); (case side1 => repeat (first | exact (Kd.R_reads' HO156.out).2.2 | (with_reducible refine Kd.C_alloc ?_ _) | (with_reducible refine Kd.C_drewN ?_ _) | (with_reducible refine Kd.C_drew ?_))); (case side2 => exact (Kd.R_reads' HO156.out).2.1); (case side3 => exact Kd.C_nil _ _); (case side4 => exact Nat.le_refl _); rintro e w141 ⟨rfl, hb⟩; have n0_ := Aside0.mk (Kd.R_below (by (with_reducible repeat (first | apply Kd.R_alloc | apply Kd.R_drewN | apply Kd.R_drew)); exact HO156.out) hb); have n1_ := Aside0.mk (blk_below (g := gb151) (o := .cells #[.int .i64 ((rd_T29 l0 x3_1).f0.f0), .int .i64 ((rd_T29 l0 x3_1).f0.f1), .bool ((rd_T29 l0 x3_1).f0.f2), .int .i64 ((rd_T29 l0 x3_1).f0.f3), .int .i64 ((rd_T29 l0 x3_1).f0.f4), .int .i64 ((rd_T29 l0 x3_1).f0.f5), .bool ((rd_T29 l0 x3_1).f0.f6), .int .i64 ((rd_T29 l0 x3_1).f0.f7), .int .i64 ((rd_T29 l0 x3_1).f0.f8)] 24 (0, 0)) (by (with_reducible repeat (first | refine blk_drewN ?_ _ | refine blk_drew ?_ | refine blk_alloc ?_ _)); exact BK151.out) hb); have n2_ := Aside0.mk (blk_below (g := gb160) (o := .cells #[.int .i64 t152, .int .i64 t153, .slice Ao137 t154.length co137, .int .i64 t157] 31 (0, 0)) (by (with_reducible repeat (first | refine blk_drewN ?_ _ | refine blk_drew ?_ | refine blk_alloc ?_ _)); exact BK160.out) hb); have n3_ := Aside0.mk (below_step (by repeat (first | (with_reducible first | exact HB.out | apply below_alloc | apply pw_below_drewN | apply below_drew1 | refine below_set ?_ GE151.out | refine below_set ?_ GE160.out) | exact HB.out)) hb); clear HO156; clear BK151; clear BK160; clear HB; have HO156 := n0_; have BK151 := n1_; have BK160 := n2_; have HB := n3_; clear n0_ n1_ n2_ n3_; (try clear hb); (try clear hb2); (try clear hk); (try clear hi)))
                        go_ret
                        exact ⟨by first | rfl | (simp [errW_none, errW_some] <;> rfl) | (simp [*, errW_none, errW_some] <;> rfl), by repeat (first | (with_reducible first | exact HB.out | apply below_alloc | apply pw_below_drewN | apply below_drew1 | refine below_set ?_ GE151.out | refine below_set ?_ GE160.out) | exact HB.out)⟩
                  · rw [if_neg c107] at H
                    have c107b0 : (t162 == 1) = false := beq_eq_false_iff_ne.mpr c107
                    have c107b1 : (t162 != 1) = true := bne_iff_ne.mpr c107
                    obtain rfl := Option.some.inj H
                    have p150 : 0 ≤ (x3_1 : Int) := of_decide_eq_true (by first | (with_reducible assumption) | assumption)
                    have q150 : x3_1 < (l0.length : Int) := of_decide_eq_true (by first | (with_reducible assumption) | assumption)
                    obtain ⟨ad150, A150_12, c150_12, e150, hx150_0, hx150_1, hx150_2, hx150_3, hx150_4, hx150_5, hx150_6, hx150_7, hx150_8, hx150_9, hx150_10, hx150_11, hx150_12, hl150_12, hi150_12⟩ := at_T29 HR0.out x3_1 p150 q150
                    cases e150
                    replace hx150_0 := (HB.out.cell (World.block_lt_of_cell? w _ hx150_0)).trans hx150_0
                    replace hx150_1 := (HB.out.cell (World.block_lt_of_cell? w _ hx150_1)).trans hx150_1
                    replace hx150_2 := (HB.out.cell (World.block_lt_of_cell? w _ hx150_2)).trans hx150_2
                    replace hx150_3 := (HB.out.cell (World.block_lt_of_cell? w _ hx150_3)).trans hx150_3
                    replace hx150_4 := (HB.out.cell (World.block_lt_of_cell? w _ hx150_4)).trans hx150_4
                    replace hx150_5 := (HB.out.cell (World.block_lt_of_cell? w _ hx150_5)).trans hx150_5
                    replace hx150_6 := (HB.out.cell (World.block_lt_of_cell? w _ hx150_6)).trans hx150_6
                    replace hx150_7 := (HB.out.cell (World.block_lt_of_cell? w _ hx150_7)).trans hx150_7
                    replace hx150_8 := (HB.out.cell (World.block_lt_of_cell? w _ hx150_8)).trans hx150_8
                    replace hx150_9 := (HB.out.cell (World.block_lt_of_cell? w _ hx150_9)).trans hx150_9
                    replace hx150_10 := (HB.out.cell (World.block_lt_of_cell? w _ hx150_10)).trans hx150_10
                    replace hx150_11 := (HB.out.cell (World.block_lt_of_cell? w _ hx150_11)).trans hx150_11
                    replace hx150_12 := (HB.out.cell (World.block_lt_of_cell? w _ hx150_12)).trans hx150_12
                    have HR150_12 := Aside0.mk hi150_12
                    have HC150_12 := Aside0.mk hl150_12
                    clear hi150_12 hl150_12
                    replace p150 := eq_true p150
                    replace q150 := eq_true q150
                    go_wp2_with (first | ((with_reducible refine gate_dst (N := 4) rfl ?_); refine box_event ?hg (N := 4) ?hd (cs := #[.int .i64 0, .int .i64 0, .bool false, .int .i64 0, .int .i64 0, .int .i64 0, .bool false, .int .i64 0, .int .i64 0]) (t := 24) ?hr ?_; (case hd => rfl); (case hg => rfl); (case hr => first | (go_simp; done) | (go_simp; rfl)); intro gb151 hg w142 hbox hb; have n0_ := Aside0.mk (below_step (by repeat (first | (with_reducible first | exact HB.out | apply below_alloc | apply pw_below_drewN | apply below_drew1) | exact HB.out)) hb); have n1_ := Aside0.mk (hbox); have n2_ := Aside0.mk ((by rw [hg]; exact (below_size (by repeat (first | (with_reducible first | exact HB.out | apply below_alloc | apply pw_below_drewN | apply below_drew1) | exact HB.out))) : w.heap.size ≤ gb151)); have n3_ := Aside0.mk ((by rw [hg]; exact (below_size (by repeat (first | (with_reducible first | exact HB.out | apply below_alloc | apply pw_below_drewN | apply below_drew1) | exact HB.out))) : w.heap.size ≤ gb151)); clear HB; have HB := n0_; have BK151 := n1_; have GW151 := n2_; have GE151 := n3_; clear n0_ n1_ n2_ n3_; clear hb hbox hg; have hcz143_0 : w142.cell? ⟨gb151, 0, none⟩ = some (.int .i64 0) := (blk_cell BK151.out 0).trans rfl; have hcz143_1 : w142.cell? ⟨gb151, 1, none⟩ = some (.int .i64 0) := (blk_cell BK151.out 1).trans rfl; have hcz143_2 : w142.cell? ⟨gb151, 2, none⟩ = some (.bool false) := (blk_cell BK151.out 2).trans rfl; have hcz143_3 : w142.cell? ⟨gb151, 3, none⟩ = some (.int .i64 0) := (blk_cell BK151.out 3).trans rfl; have hcz143_4 : w142.cell? ⟨gb151, 4, none⟩ = some (.int .i64 0) := (blk_cell BK151.out 4).trans rfl; have hcz143_5 : w142.cell? ⟨gb151, 5, none⟩ = some (.int .i64 0) := (blk_cell BK151.out 5).trans rfl; have hcz143_6 : w142.cell? ⟨gb151, 6, none⟩ = some (.bool false) := (blk_cell BK151.out 6).trans rfl; have hcz143_7 : w142.cell? ⟨gb151, 7, none⟩ = some (.int .i64 0) := (blk_cell BK151.out 7).trans rfl; have hcz143_8 : w142.cell? ⟨gb151, 8, none⟩ = some (.int .i64 0) := (blk_cell BK151.out 8).trans rfl; have hfz143_0 := blk_frozen BK151.out 0; have hfz143_1 := blk_frozen BK151.out 1; have hfz143_2 := blk_frozen BK151.out 2; have hfz143_3 := blk_frozen BK151.out 3; have hfz143_4 := blk_frozen BK151.out 4; have hfz143_5 := blk_frozen BK151.out 5; have hfz143_6 := blk_frozen BK151.out 6; have hfz143_7 := blk_frozen BK151.out 7; have hfz143_8 := blk_frozen BK151.out 8) | ((with_reducible refine gate_callee (f := 9) rfl ?_); refine goesL_ (some 27) rfl rfl Try.func9 (by kernel_rfl) rfl #[.agg #[.int .i64 ((rd_T29 l0 x3_1).f0.f0), .int .i64 ((rd_T29 l0 x3_1).f0.f1), .bool ((rd_T29 l0 x3_1).f0.f2), .int .i64 ((rd_T29 l0 x3_1).f0.f3), .int .i64 ((rd_T29 l0 x3_1).f0.f4), .int .i64 ((rd_T29 l0 x3_1).f0.f5), .bool ((rd_T29 l0 x3_1).f0.f6), .int .i64 ((rd_T29 l0 x3_1).f0.f7), .int .i64 ((rd_T29 l0 x3_1).f0.f8)]] rfl (by (try simp only [List.map_toArray, List.map_cons, List.map_nil]); first | done | rfl | (simp only [List.length_drop, List.length_take]; rfl)) ?_; (with_reducible refine (drv_Next.calls ((rd_T29 l0 x3_1).f0.f0) ((rd_T29 l0 x3_1).f0.f1) ((rd_T29 l0 x3_1).f0.f2) ((rd_T29 l0 x3_1).f0.f3) ((rd_T29 l0 x3_1).f0.f4) ((rd_T29 l0 x3_1).f0.f5) ((rd_T29 l0 x3_1).f0.f6) ((rd_T29 l0 x3_1).f0.f7) ((rd_T29 l0 x3_1).f0.f8) t152 t153 t154 t157 t158 t159 _ A7.out).mono ?_); rintro e w144 ⟨v155, rfl, ho0, hb⟩; refine ⟨_, rfl, ?_⟩; have n0_ := Aside0.mk (Kd.R_lower ho0 (below_size (by repeat (first | (with_reducible first | exact HB.out | apply below_alloc | apply pw_below_drewN | apply below_drew1 | refine below_set ?_ GE151.out) | exact HB.out)))); have n1_ := Aside0.mk (blk_below (g := gb151) (o := .cells #[.int .i64 ((rd_T29 l0 x3_1).f0.f0), .int .i64 ((rd_T29 l0 x3_1).f0.f1), .bool ((rd_T29 l0 x3_1).f0.f2), .int .i64 ((rd_T29 l0 x3_1).f0.f3), .int .i64 ((rd_T29 l0 x3_1).f0.f4), .int .i64 ((rd_T29 l0 x3_1).f0.f5), .bool ((rd_T29 l0 x3_1).f0.f6), .int .i64 ((rd_T29 l0 x3_1).f0.f7), .int .i64 ((rd_T29 l0 x3_1).f0.f8)] 24 (0, 0)) (by (with_reducible repeat (first | refine blk_drewN ?_ _ | refine blk_drew ?_ | refine blk_alloc ?_ _)); refine blk_put (cs := #[.int .i64 ((rd_T29 l0 x3_1).f0.f0), .int .i64 ((rd_T29 l0 x3_1).f0.f1), .bool ((rd_T29 l0 x3_1).f0.f2), .int .i64 ((rd_T29 l0 x3_1).f0.f3), .int .i64 ((rd_T29 l0 x3_1).f0.f4), .int .i64 ((rd_T29 l0 x3_1).f0.f5), .bool ((rd_T29 l0 x3_1).f0.f6), .int .i64 ((rd_T29 l0 x3_1).f0.f7), .int .i64 0]) ?_ 8 _ rfl; (with_reducible repeat (first | refine blk_drewN ?_ _ | refine blk_drew ?_ | refine blk_alloc ?_ _)); refine blk_put (cs := #[.int .i64 ((rd_T29 l0 x3_1).f0.f0), .int .i64 ((rd_T29 l0 x3_1).f0.f1), .bool ((rd_T29 l0 x3_1).f0.f2), .int .i64 ((rd_T29 l0 x3_1).f0.f3), .int .i64 ((rd_T29 l0 x3_1).f0.f4), .int .i64 ((rd_T29 l0 x3_1).f0.f5), .bool ((rd_T29 l0 x3_1).f0.f6), .int .i64 0, .int .i64 0]) ?_ 7 _ rfl; (with_reducible repeat (first | refine blk_drewN ?_ _ | refine blk_drew ?_ | refine blk_alloc ?_ _)); refine blk_put (cs := #[.int .i64 ((rd_T29 l0 x3_1).f0.f0), .int .i64 ((rd_T29 l0 x3_1).f0.f1), .bool ((rd_T29 l0 x3_1).f0.f2), .int .i64 ((rd_T29 l0 x3_1).f0.f3), .int .i64 ((rd_T29 l0 x3_1).f0.f4), .int .i64 ((rd_T29 l0 x3_1).f0.f5), .bool false, .int .i64 0, .int .i64 0]) ?_ 6 _ rfl; (with_reducible repeat (first | refine blk_drewN ?_ _ | refine blk_drew ?_ | refine blk_alloc ?_ _)); refine blk_put (cs := #[.int .i64 ((rd_T29 l0 x3_1).f0.f0), .int .i64 ((rd_T29 l0 x3_1).f0.f1), .bool ((rd_T29 l0 x3_1).f0.f2), .int .i64 ((rd_T29 l0 x3_1).f0.f3), .int .i64 ((rd_T29 l0 x3_1).f0.f4), .int .i64 0, .bool false, .int .i64 0, .int .i64 0]) ?_ 5 _ rfl; (with_reducible repeat (first | refine blk_drewN ?_ _ | refine blk_drew ?_ | refine blk_alloc ?_ _)); refine blk_put (cs := #[.int .i64 ((rd_T29 l0 x3_1).f0.f0), .int .i64 ((rd_T29 l0 x3_1).f0.f1), .bool ((rd_T29 l0 x3_1).f0.f2), .int .i64 ((rd_T29 l0 x3_1).f0.f3), .int .i64 0, .int .i64 0, .bool false, .int .i64 0, .int .i64 0]) ?_ 4 _ rfl; (with_reducible repeat (first | refine blk_drewN ?_ _ | refine blk_drew ?_ | refine blk_alloc ?_ _)); refine blk_put (cs := #[.int .i64 ((rd_T29 l0 x3_1).f0.f0), .int .i64 ((rd_T29 l0 x3_1).f0.f1), .bool ((rd_T29 l0 x3_1).f0.f2), .int .i64 0, .int .i64 0, .int .i64 0, .bool false, .int .i64 0, .int .i64 0]) ?_ 3 _ rfl; (with_reducible repeat (first | refine blk_drewN ?_ _ | refine blk_drew ?_ | refine blk_alloc ?_ _)); refine blk_put (cs := #[.int .i64 ((rd_T29 l0 x3_1).f0.f0), .int .i64 ((rd_T29 l0 x3_1).f0.f1), .bool false, .int .i64 0, .int .i64 0, .int .i64 0, .bool false, .int .i64 0, .int .i64 0]) ?_ 2 _ rfl; (with_reducible repeat (first | refine blk_drewN ?_ _ | refine blk_drew ?_ | refine blk_alloc ?_ _)); refine blk_put (cs := #[.int .i64 ((rd_T29 l0 x3_1).f0.f0), .int .i64 0, .bool false, .int .i64 0, .int .i64 0, .int .i64 0, .bool false, .int .i64 0, .int .i64 0]) ?_ 1 _ rfl; (with_reducible repeat (first | refine blk_drewN ?_ _ | refine blk_drew ?_ | refine blk_alloc ?_ _)); refine blk_put (cs := #[.int .i64 0, .int .i64 0, .bool false, .int .i64 0, .int .i64 0, .int .i64 0, .bool false, .int .i64 0, .int .i64 0]) ?_ 0 _ rfl; (with_reducible repeat (first | refine blk_drewN ?_ _ | refine blk_drew ?_ | refine blk_alloc ?_ _)); exact BK151.out) hb); have n2_ := Aside0.mk (below_step (by repeat (first | (with_reducible first | exact HB.out | apply below_alloc | apply pw_below_drewN | apply below_drew1 | refine below_set ?_ GE151.out) | exact HB.out)) hb); clear BK151; clear HB; have HO156 := n0_; have BK151 := n1_; have HB := n2_; clear n0_ n1_ n2_; (try clear hb); (try clear hb2); (try clear hk); (try clear hi); (try clear ho0)) | ((with_reducible refine gate_dst (N := 5) rfl ?_); refine box_event ?hg (N := 5) ?hd (cs := #[.int .i64 0, .int .i64 0, .slice none 0 0, .int .i64 0]) (t := 31) ?hr ?_; (case hd => rfl); (case hg => rfl); (case hr => first | (go_simp; done) | (go_simp; rfl)); intro gb160 hg w145 hbox hb; have n0_ := Aside0.mk (Kd.R_below (by (with_reducible repeat (first | apply Kd.R_alloc | apply Kd.R_drewN | apply Kd.R_drew)); exact HO156.out) hb); have n1_ := Aside0.mk (blk_below (g := gb151) (o := .cells #[.int .i64 ((rd_T29 l0 x3_1).f0.f0), .int .i64 ((rd_T29 l0 x3_1).f0.f1), .bool ((rd_T29 l0 x3_1).f0.f2), .int .i64 ((rd_T29 l0 x3_1).f0.f3), .int .i64 ((rd_T29 l0 x3_1).f0.f4), .int .i64 ((rd_T29 l0 x3_1).f0.f5), .bool ((rd_T29 l0 x3_1).f0.f6), .int .i64 ((rd_T29 l0 x3_1).f0.f7), .int .i64 ((rd_T29 l0 x3_1).f0.f8)] 24 (0, 0)) (by (with_reducible repeat (first | refine blk_drewN ?_ _ | refine blk_drew ?_ | refine blk_alloc ?_ _)); exact BK151.out) hb); have n2_ := Aside0.mk (below_step (by repeat (first | (with_reducible first | exact HB.out | apply below_alloc | apply pw_below_drewN | apply below_drew1 | refine below_set ?_ GE151.out) | exact HB.out)) hb); have n3_ := Aside0.mk (hbox); have n4_ := Aside0.mk ((by rw [hg]; exact (below_size (by repeat (first | (with_reducible first | exact HB.out | apply below_alloc | apply pw_below_drewN | apply below_drew1 | refine below_set ?_ GE151.out) | exact HB.out))) : w.heap.size ≤ gb160)); have n5_ := Aside0.mk ((by rw [hg]; exact (below_size (by repeat (first | (with_reducible first | exact HB.out | apply below_alloc | apply pw_below_drewN | apply below_drew1 | refine below_set ?_ GE151.out) | exact HB.out))) : w.heap.size ≤ gb160)); have n6_ := Aside0.mk ((by rw [hg]; exact Nat.ne_of_lt (blk_lt (g := gb151) (o := .cells #[.int .i64 ((rd_T29 l0 x3_1).f0.f0), .int .i64 ((rd_T29 l0 x3_1).f0.f1), .bool ((rd_T29 l0 x3_1).f0.f2), .int .i64 ((rd_T29 l0 x3_1).f0.f3), .int .i64 ((rd_T29 l0 x3_1).f0.f4), .int .i64 ((rd_T29 l0 x3_1).f0.f5), .bool ((rd_T29 l0 x3_1).f0.f6), .int .i64 ((rd_T29 l0 x3_1).f0.f7), .int .i64 ((rd_T29 l0 x3_1).f0.f8)] 24 (0, 0)) (by (with_reducible repeat (first | refine blk_drewN ?_ _ | refine blk_drew ?_ | refine blk_alloc ?_ _)); exact BK151.out)) : gb151 ≠ gb160)); have n7_ := Aside0.mk ((by rw [hg]; exact Nat.ne_of_gt (blk_lt (g := gb151) (o := .cells #[.int .i64 ((rd_T29 l0 x3_1).f0.f0), .int .i64 ((rd_T29 l0 x3_1).f0.f1), .bool ((rd_T29 l0 x3_1).f0.f2), .int .i64 ((rd_T29 l0 x3_1).f0.f3), .int .i64 ((rd_T29 l0 x3_1).f0.f4), .int .i64 ((rd_T29 l0 x3_1).f0.f5), .bool ((rd_T29 l0 x3_1).f0.f6), .int .i64 ((rd_T29 l0 x3_1).f0.f7), .int .i64 ((rd_T29 l0 x3_1).f0.f8)] 24 (0, 0)) (by (with_reducible repeat (first | refine blk_drewN ?_ _ | refine blk_drew ?_ | refine blk_alloc ?_ _)); exact BK151.out)) : gb160 ≠ gb151)); clear HO156; clear BK151; clear HB; have HO156 := n0_; have BK151 := n1_; have HB := n2_; have BK160 := n3_; have GW160 := n4_; have GE160 := n5_; have NB151_160 := n6_; have NB160_151 := n7_; clear n0_ n1_ n2_ n3_ n4_ n5_ n6_ n7_; clear hb hbox hg; have hnb146 := NB160_151.out; have hnc146 := NB151_160.out; have hcz147_0 : w145.cell? ⟨gb160, 0, none⟩ = some (.int .i64 0) := (blk_cell BK160.out 0).trans rfl; have hcz147_1 : w145.cell? ⟨gb160, 1, none⟩ = some (.int .i64 0) := (blk_cell BK160.out 1).trans rfl; have hcz147_2 : w145.cell? ⟨gb160, 2, none⟩ = some (.slice none 0 0) := (blk_cell BK160.out 2).trans rfl; have hcz147_3 : w145.cell? ⟨gb160, 3, none⟩ = some (.int .i64 0) := (blk_cell BK160.out 3).trans rfl; have hfz147_0 := blk_frozen BK160.out 0; have hfz147_1 := blk_frozen BK160.out 1; have hfz147_2 := blk_frozen BK160.out 2; have hfz147_3 := blk_frozen BK160.out 3; obtain ⟨Ao148, co148, eo148⟩ := Kd.R_slice HO156.out; subst eo148; have hcz149_0 : w145.cell? ⟨gb151, 0, none⟩ = some (.int .i64 ((rd_T29 l0 x3_1).f0.f0)) := (blk_cell BK151.out 0).trans rfl; have hcz149_1 : w145.cell? ⟨gb151, 1, none⟩ = some (.int .i64 ((rd_T29 l0 x3_1).f0.f1)) := (blk_cell BK151.out 1).trans rfl; have hcz149_2 : w145.cell? ⟨gb151, 2, none⟩ = some (.bool ((rd_T29 l0 x3_1).f0.f2)) := (blk_cell BK151.out 2).trans rfl; have hcz149_3 : w145.cell? ⟨gb151, 3, none⟩ = some (.int .i64 ((rd_T29 l0 x3_1).f0.f3)) := (blk_cell BK151.out 3).trans rfl; have hcz149_4 : w145.cell? ⟨gb151, 4, none⟩ = some (.int .i64 ((rd_T29 l0 x3_1).f0.f4)) := (blk_cell BK151.out 4).trans rfl; have hcz149_5 : w145.cell? ⟨gb151, 5, none⟩ = some (.int .i64 ((rd_T29 l0 x3_1).f0.f5)) := (blk_cell BK151.out 5).trans rfl; have hcz149_6 : w145.cell? ⟨gb151, 6, none⟩ = some (.bool ((rd_T29 l0 x3_1).f0.f6)) := (blk_cell BK151.out 6).trans rfl; have hcz149_7 : w145.cell? ⟨gb151, 7, none⟩ = some (.int .i64 ((rd_T29 l0 x3_1).f0.f7)) := (blk_cell BK151.out 7).trans rfl; have hcz149_8 : w145.cell? ⟨gb151, 8, none⟩ = some (.int .i64 ((rd_T29 l0 x3_1).f0.f8)) := (blk_cell BK151.out 8).trans rfl; have hfz149_0 := blk_frozen BK151.out 0; have hfz149_1 := blk_frozen BK151.out 1; have hfz149_2 := blk_frozen BK151.out 2; have hfz149_3 := blk_frozen BK151.out 3; have hfz149_4 := blk_frozen BK151.out 4; have hfz149_5 := blk_frozen BK151.out 5; have hfz149_6 := blk_frozen BK151.out 6; have hfz149_7 := blk_frozen BK151.out 7; have hfz149_8 := blk_frozen BK151.out 8) | ((with_reducible refine gate_callee (f := 10) rfl ?_); refine goesL_ (some 32) rfl rfl Try.func10 (by kernel_rfl) rfl #[.agg #[.int .i64 ((rd_T29 l0 x3_1).f0.f0), .int .i64 ((rd_T29 l0 x3_1).f0.f1), .bool ((rd_T29 l0 x3_1).f0.f2), .int .i64 ((rd_T29 l0 x3_1).f0.f3), .int .i64 ((rd_T29 l0 x3_1).f0.f4), .int .i64 ((rd_T29 l0 x3_1).f0.f5), .bool ((rd_T29 l0 x3_1).f0.f6), .int .i64 ((rd_T29 l0 x3_1).f0.f7), .int .i64 ((rd_T29 l0 x3_1).f0.f8)]] rfl (by (try simp only [List.map_toArray, List.map_cons, List.map_nil]); first | done | rfl | (simp only [List.length_drop, List.length_take]; rfl)) ?_; (with_reducible refine (gimbalref9_May.calls kj1 ((rd_T29 l0 x3_1).f0.f0) ((rd_T29 l0 x3_1).f0.f1) ((rd_T29 l0 x3_1).f0.f2) ((rd_T29 l0 x3_1).f0.f3) ((rd_T29 l0 x3_1).f0.f4) ((rd_T29 l0 x3_1).f0.f5) ((rd_T29 l0 x3_1).f0.f6) ((rd_T29 l0 x3_1).f0.f7) ((rd_T29 l0 x3_1).f0.f8) false _ A8.out).mono ?_); rintro e w150 ⟨rfl, hb⟩; refine ⟨_, rfl, ?_⟩; have n0_ := Aside0.mk (Kd.R_below (by (with_reducible repeat (first | apply Kd.R_alloc | apply Kd.R_drewN | apply Kd.R_drew)); exact (Kd.R_mono (Kd.R_far (p := ⟨gb160, 3, none⟩) (Kd.R_far (p := ⟨gb160, 2, none⟩) (Kd.R_far (p := ⟨gb160, 1, none⟩) (Kd.R_far (p := ⟨gb160, 0, none⟩) (Kd.R_types HO156.out BK160.out (by decide)) (fun _ hk => hk.2) (.int .i64 t152)) (fun _ hk => hk.2) (.int .i64 t153)) (fun _ hk => hk.2) (.slice Ao148 t154.length co148)) (fun _ hk => hk.2) (.int .i64 t157)) (fun _ h_ => h_.1))) hb); have n1_ := Aside0.mk (blk_below (g := gb151) (o := .cells #[.int .i64 ((rd_T29 l0 x3_1).f0.f0), .int .i64 ((rd_T29 l0 x3_1).f0.f1), .bool ((rd_T29 l0 x3_1).f0.f2), .int .i64 ((rd_T29 l0 x3_1).f0.f3), .int .i64 ((rd_T29 l0 x3_1).f0.f4), .int .i64 ((rd_T29 l0 x3_1).f0.f5), .bool ((rd_T29 l0 x3_1).f0.f6), .int .i64 ((rd_T29 l0 x3_1).f0.f7), .int .i64 ((rd_T29 l0 x3_1).f0.f8)] 24 (0, 0)) (by (with_reducible repeat (first | refine blk_drewN ?_ _ | refine blk_drew ?_ | refine blk_alloc ?_ _)); refine blk_far ?_ NB151_160.out _; (with_reducible repeat (first | refine blk_drewN ?_ _ | refine blk_drew ?_ | refine blk_alloc ?_ _)); refine blk_far ?_ NB151_160.out _; (with_reducible repeat (first | refine blk_drewN ?_ _ | refine blk_drew ?_ | refine blk_alloc ?_ _)); refine blk_far ?_ NB151_160.out _; (with_reducible repeat (first | refine blk_drewN ?_ _ | refine blk_drew ?_ | refine blk_alloc ?_ _)); refine blk_far ?_ NB151_160.out _; (with_reducible repeat (first | refine blk_drewN ?_ _ | refine blk_drew ?_ | refine blk_alloc ?_ _)); exact BK151.out) hb); have n2_ := Aside0.mk (blk_below (g := gb160) (o := .cells #[.int .i64 t152, .int .i64 t153, .slice Ao148 t154.length co148, .int .i64 t157] 31 (0, 0)) (by (with_reducible repeat (first | refine blk_drewN ?_ _ | refine blk_drew ?_ | refine blk_alloc ?_ _)); refine blk_put (cs := #[.int .i64 t152, .int .i64 t153, .slice Ao148 t154.length co148, .int .i64 0]) ?_ 3 _ rfl; (with_reducible repeat (first | refine blk_drewN ?_ _ | refine blk_drew ?_ | refine blk_alloc ?_ _)); refine blk_put (cs := #[.int .i64 t152, .int .i64 t153, .slice none 0 0, .int .i64 0]) ?_ 2 _ rfl; (with_reducible repeat (first | refine blk_drewN ?_ _ | refine blk_drew ?_ | refine blk_alloc ?_ _)); refine blk_put (cs := #[.int .i64 t152, .int .i64 0, .slice none 0 0, .int .i64 0]) ?_ 1 _ rfl; (with_reducible repeat (first | refine blk_drewN ?_ _ | refine blk_drew ?_ | refine blk_alloc ?_ _)); refine blk_put (cs := #[.int .i64 0, .int .i64 0, .slice none 0 0, .int .i64 0]) ?_ 0 _ rfl; (with_reducible repeat (first | refine blk_drewN ?_ _ | refine blk_drew ?_ | refine blk_alloc ?_ _)); exact BK160.out) hb); have n3_ := Aside0.mk (below_step (by repeat (first | (with_reducible first | exact HB.out | apply below_alloc | apply pw_below_drewN | apply below_drew1 | refine below_set ?_ GE151.out | refine below_set ?_ GE160.out) | exact HB.out)) hb); clear HO156; clear BK151; clear BK160; clear HB; have HO156 := n0_; have BK151 := n1_; have BK160 := n2_; have HB := n3_; clear n0_ n1_ n2_ n3_; (try clear hb); (try clear hb2); (try clear hk); (try clear hi)) | ((with_reducible refine gate_callee (f := 11) rfl ?_); refine goesL_ (some 35) rfl rfl Try.func11 (by kernel_rfl) rfl #[.int .i64 t159] rfl (by (try simp only [List.map_toArray, List.map_cons, List.map_nil]); first | done | rfl | (simp only [List.length_drop, List.length_take]; rfl)) ?_; (with_reducible refine (gimballaw9_num.calls t159 t162 _ A106.out).mono ?_); rintro e w' ⟨rfl, ⟨nd, rfl⟩⟩; refine ⟨_, rfl, ?_⟩))
                    go_ret
                    exact ⟨by first | rfl | (simp [errW_none, errW_some] <;> rfl) | (simp [*, errW_none, errW_some] <;> rfl), by repeat (first | (with_reducible first | exact HB.out | apply below_alloc | apply pw_below_drewN | apply below_drew1 | refine below_set ?_ GE151.out | refine below_set ?_ GE160.out) | exact HB.out)⟩
              · rw [if_neg c6] at H
                exact absurd H (by simp)
            · rw [if_neg c5] at H
              exact absurd H (by simp)
          · replace c4 := Bool.eq_false_iff.mpr c4
            subst c4
            have H1 : ((gimballaw9_wakes.f kj1).bind fun t149 => (some t149)) = some r := by rw [if_neg (show ¬ (false = true) by decide)] at H; exact H
            clear H
            have H := H1
            clear H1
            replace H := Option.bind_eq_some_iff.mp H
            obtain ⟨t149, A1510, H⟩ := H
            replace H : (some t149) = some r := H
            have A151 := Aside0.mk A1510
            clear A1510
            obtain rfl := Option.some.inj H
            go_wp2_with (first | ((with_reducible refine gate_callee (f := 13) rfl ?_); refine goesL_ (some 116) rfl rfl Try.func13 (by kernel_rfl) rfl #[] rfl (by (try simp only [List.map_toArray, List.map_cons, List.map_nil]); first | done | rfl | (simp only [List.length_drop, List.length_take]; rfl)) ?_; (with_reducible refine (gimballaw9_wakes.calls kj1  t149 _ A151.out).mono ?_); rintro e w152 ⟨rfl, hb⟩; refine ⟨_, rfl, ?_⟩; have n0_ := Aside0.mk (below_step (by repeat (first | (with_reducible first | exact HB.out | apply below_alloc | apply pw_below_drewN | apply below_drew1) | exact HB.out)) hb); clear HB; have HB := n0_; clear n0_; (try clear hb); (try clear hb2); (try clear hk); (try clear hi)))
            go_ret
            exact ⟨by first | rfl | (simp [errW_none, errW_some] <;> rfl) | (simp [*, errW_none, errW_some] <;> rfl), by repeat (first | (with_reducible first | exact HB.out | apply below_alloc | apply pw_below_drewN | apply below_drew1) | exact HB.out)⟩

end Go.Proofs.Ytnlmbejkemkkoaa.PDrvNexts
