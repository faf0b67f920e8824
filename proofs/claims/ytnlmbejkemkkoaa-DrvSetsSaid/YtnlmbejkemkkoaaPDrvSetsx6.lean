import Derived.Test.YtnlmbejkemkkoaaPDrvSetsx0
import Derived.Test.YtnlmbejkemkkoaaPDrvSetsx1
import Derived.Test.YtnlmbejkemkkoaaPDrvSetsx2
import Derived.Test.YtnlmbejkemkkoaaPDrvSetsx3
import Derived.Test.YtnlmbejkemkkoaaPDrvSetsx4
import Derived.Test.YtnlmbejkemkkoaaPDrvSetsx5
namespace Go.Proofs.Ytnlmbejkemkkoaa.PDrvSets
open Go.RowKit Go.Proofs.YtnlmbejkemkkoaaW.PrintWords Go.Proofs.YtnlmbejkemkkoaaW.PrintLast Go.Proofs.YtnlmbejkemkkoaaW.PrintMore
attribute [local go_sem] max2_int min2_int max_two min_two max_three min_three max_four min_four   -- for this text's walks alone
set_option linter.unusedVariables false
set_option linter.unusedSimpArgs false

attribute [local go_sem high] eqA24
/-! ### gimballaw9_DrvSets: function 4 -/
mutual
def gimballaw9_DrvSets.l0 : Nat → List (S29) → Int → Option (Bool)
  | 0, _, _ => none
  | k + 1, x0, x3 => if x3 < (x0.length : Int) then (gimballaw9_DrvSets.j1 k x0 x3 (decide (x3 < 30))) else (gimballaw9_DrvSets.j1 k x0 x3 false)
def gimballaw9_DrvSets.j1 : Nat → List (S29) → Int → Bool → Option (Bool)
  | 0, _, _, _ => none
  | k + 1, x0, x3, x16 => if x16 = true then (if 0 ≤ x3 then (if x3 < (x0.length : Int) then ((drv_Set.f k ((rd_T29 x0 x3).f0.f0) ((rd_T29 x0 x3).f0.f1) ((rd_T29 x0 x3).f0.f2) ((rd_T29 x0 x3).f0.f3) ((rd_T29 x0 x3).f0.f4) ((rd_T29 x0 x3).f0.f5) ((rd_T29 x0 x3).f0.f6) ((rd_T29 x0 x3).f0.f7) ((rd_T29 x0 x3).f0.f8) ((rd_T29 x0 x3).f1) ((rd_T29 x0 x3).f2)).bind fun bt147 => ((gimbalref9_May.f k ((rd_T29 x0 x3).f0.f0) ((rd_T29 x0 x3).f0.f1) ((rd_T29 x0 x3).f0.f2) ((rd_T29 x0 x3).f0.f3) ((rd_T29 x0 x3).f0.f4) ((rd_T29 x0 x3).f0.f5) ((rd_T29 x0 x3).f0.f6) ((rd_T29 x0 x3).f0.f7) ((rd_T29 x0 x3).f0.f8)).bind fun t158 => (if t158 = true then (if ((rd_T29 x0 x3).f2) < 1 then (gimballaw9_DrvSets.j2 k x0 x3 bt147.2.2.2.2.2.2.2.2.2 true ((rd_T29 x0 x3).f0.f0) ((rd_T29 x0 x3).f0.f1) ((rd_T29 x0 x3).f0.f2) ((rd_T29 x0 x3).f0.f3) ((rd_T29 x0 x3).f0.f4) ((rd_T29 x0 x3).f0.f5) ((rd_T29 x0 x3).f0.f6) ((rd_T29 x0 x3).f0.f7) ((rd_T29 x0 x3).f0.f8) ((rd_T29 x0 x3).f1) ((rd_T29 x0 x3).f2) ((rd_T29 x0 x3).f3.f0) ((rd_T29 x0 x3).f3.f1) bt147.1 bt147.2.1 bt147.2.2.1 bt147.2.2.2.1 bt147.2.2.2.2.1 bt147.2.2.2.2.2.1 bt147.2.2.2.2.2.2.1 bt147.2.2.2.2.2.2.2.1 bt147.2.2.2.2.2.2.2.2.1) else (gimballaw9_DrvSets.j2 k x0 x3 bt147.2.2.2.2.2.2.2.2.2 (decide (((rd_T29 x0 x3).f2) > 250)) ((rd_T29 x0 x3).f0.f0) ((rd_T29 x0 x3).f0.f1) ((rd_T29 x0 x3).f0.f2) ((rd_T29 x0 x3).f0.f3) ((rd_T29 x0 x3).f0.f4) ((rd_T29 x0 x3).f0.f5) ((rd_T29 x0 x3).f0.f6) ((rd_T29 x0 x3).f0.f7) ((rd_T29 x0 x3).f0.f8) ((rd_T29 x0 x3).f1) ((rd_T29 x0 x3).f2) ((rd_T29 x0 x3).f3.f0) ((rd_T29 x0 x3).f3.f1) bt147.1 bt147.2.1 bt147.2.2.1 bt147.2.2.2.1 bt147.2.2.2.2.1 bt147.2.2.2.2.2.1 bt147.2.2.2.2.2.2.1 bt147.2.2.2.2.2.2.2.1 bt147.2.2.2.2.2.2.2.2.1)) else (gimballaw9_DrvSets.j2 k x0 x3 bt147.2.2.2.2.2.2.2.2.2 true ((rd_T29 x0 x3).f0.f0) ((rd_T29 x0 x3).f0.f1) ((rd_T29 x0 x3).f0.f2) ((rd_T29 x0 x3).f0.f3) ((rd_T29 x0 x3).f0.f4) ((rd_T29 x0 x3).f0.f5) ((rd_T29 x0 x3).f0.f6) ((rd_T29 x0 x3).f0.f7) ((rd_T29 x0 x3).f0.f8) ((rd_T29 x0 x3).f1) ((rd_T29 x0 x3).f2) ((rd_T29 x0 x3).f3.f0) ((rd_T29 x0 x3).f3.f1) bt147.1 bt147.2.1 bt147.2.2.1 bt147.2.2.2.1 bt147.2.2.2.2.1 bt147.2.2.2.2.2.1 bt147.2.2.2.2.2.2.1 bt147.2.2.2.2.2.2.2.1 bt147.2.2.2.2.2.2.2.2.1)))) else (none)) else (none)) else ((gimballaw9_wakes.f k).bind fun t144 => (some t144))
def gimballaw9_DrvSets.j2 : Nat → List (S29) → Int → Int → Bool → Int → Int → Bool → Int → Int → Int → Bool → Int → Int → Bool → Int → Int → List Int → Int → Int → Bool → Int → Int → Int → Bool → Int → Int → Option (Bool)
  | 0, _, _, _, _, _, _, _, _, _, _, _, _, _, _, _, _, _, _, _, _, _, _, _, _, _, _ => none
  | k + 1, x0, x3, x6, x46, x147000, x147001, x147002, x147003, x147004, x147005, x147006, x147007, x147008, x147009, x147010, x147011, x147012, x158000, x158001, x158002, x158003, x158004, x158005, x158006, x158007, x158008 => if x46 = true then ((gimballaw9_num.f x6).bind fun t159 => (if t159 = 1 then (if (!(x158000 == 0) || (!(x158001 == 0) || (x158002 || (!(x158003 == 0) || (!(x158004 == 0) || (!(x158005 == 0) || (x158006 || (!(x158007 == 0) || (!(x158008 == 0)))))))))) = true then (some false) else (gimballaw9_DrvSets.l0 k x0 (wrap64 (x3 + 1)))) else (some false))) else ((drv_Set.f k x158000 x158001 x158002 x158003 x158004 x158005 x158006 x158007 x158008 x147009 x147010).bind fun bt160 => ((gimballaw9_num.f x6).bind fun t171 => (if t171 = 0 then ((gimballaw9_num.f bt160.2.2.2.2.2.2.2.2.2).bind fun t172 => (if t172 = 0 then ((gimbalref9_Set.f x147000 x147001 x147002 x147003 x147004 x147005 x147006 x147007 x147008 x147009 x147010).bind fun bt173 => (if (!(x158000 == bt173.1) || (!(x158001 == bt173.2.1) || (!(x158002 == bt173.2.2.1) || (!(x158003 == bt173.2.2.2.1) || (!(x158004 == bt173.2.2.2.2.1) || (!(x158005 == bt173.2.2.2.2.2.1) || (!(x158006 == bt173.2.2.2.2.2.2.1) || (!(x158007 == bt173.2.2.2.2.2.2.2.1) || (!(x158008 == bt173.2.2.2.2.2.2.2.2)))))))))) = true then (some false) else (if (!(bt160.1 == x158000) || (!(bt160.2.1 == x158001) || (!(bt160.2.2.1 == x158002) || (!(bt160.2.2.2.1 == x158003) || (!(bt160.2.2.2.2.1 == x158004) || (!(bt160.2.2.2.2.2.1 == x158005) || (!(bt160.2.2.2.2.2.2.1 == x158006) || (!(bt160.2.2.2.2.2.2.2.1 == x158007) || (!(bt160.2.2.2.2.2.2.2.2.1 == x158008)))))))))) = true then (some false) else (if (x158002 != x147009) = true then (some false) else (if x158003 = x147010 then (if (x158006 != x147006) = true then (some false) else (if x158008 = x147008 then (gimballaw9_DrvSets.l0 k x0 (wrap64 (x3 + 1))) else (some false))) else (some false)))))) else (some false))) else (some false))))
end
def gimballaw9_DrvSets.f (k : Nat) (l0 : List (S29)) : Option (Bool) := gimballaw9_DrvSets.l0 k l0 0
theorem gimballaw9_DrvSets.mono_l : ∀ k, (∀ y0 y1, LeO (gimballaw9_DrvSets.l0 k y0 y1) (gimballaw9_DrvSets.l0 (k + 1) y0 y1)) ∧ (∀ y0 y1 y2, LeO (gimballaw9_DrvSets.j1 k y0 y1 y2) (gimballaw9_DrvSets.j1 (k + 1) y0 y1 y2)) ∧ (∀ y0 y1 y2 y3 y4 y5 y6 y7 y8 y9 y10 y11 y12 y13 y14 y15 y16 y17 y18 y19 y20 y21 y22 y23 y24 y25, LeO (gimballaw9_DrvSets.j2 k y0 y1 y2 y3 y4 y5 y6 y7 y8 y9 y10 y11 y12 y13 y14 y15 y16 y17 y18 y19 y20 y21 y22 y23 y24 y25) (gimballaw9_DrvSets.j2 (k + 1) y0 y1 y2 y3 y4 y5 y6 y7 y8 y9 y10 y11 y12 y13 y14 y15 y16 y17 y18 y19 y20 y21 y22 y23 y24 y25))
  | 0 => ⟨fun _ _ r h => by simp [gimballaw9_DrvSets.l0] at h, fun _ _ _ r h => by simp [gimballaw9_DrvSets.j1] at h, fun _ _ _ _ _ _ _ _ _ _ _ _ _ _ _ _ _ _ _ _ _ _ _ _ _ _ r h => by simp [gimballaw9_DrvSets.j2] at h⟩
  | k + 1 => by
    obtain ⟨ih0, ih1, ih2⟩ := gimballaw9_DrvSets.mono_l k
    refine ⟨?_, ?_, ?_⟩
    · intro y0 y1
      unfold gimballaw9_DrvSets.l0
      repeat' first
      | (with_reducible exact ih0 _ _)
      | (with_reducible exact ih1 _ _ _)
      | (with_reducible exact ih2 _ _ _ _ _ _ _ _ _ _ _ _ _ _ _ _ _ _ _ _ _ _ _ _ _ _)
      | (with_reducible exact drv_Set.mono _ _ _ _ _ _ _ _ _ _ _ _)
      | (with_reducible exact gimballaw9_wakes.mono _)
      | (with_reducible exact gimbalref9_May.mono _ _ _ _ _ _ _ _ _ _)
      | (with_reducible exact LeO.refl _)
      | (with_reducible exact LeO.none _)
      | (with_reducible refine LeO.ite ?_ ?_)
      | (with_reducible refine LeO.bind ?_ (fun _ => ?_))
      | exact ih0 _ _
      | exact ih1 _ _ _
      | exact ih2 _ _ _ _ _ _ _ _ _ _ _ _ _ _ _ _ _ _ _ _ _ _ _ _ _ _
      | exact drv_Set.mono _ _ _ _ _ _ _ _ _ _ _ _
      | exact gimballaw9_wakes.mono _
      | exact gimbalref9_May.mono _ _ _ _ _ _ _ _ _ _
      | exact LeO.none _
      | refine LeO.ite ?_ ?_
      | refine LeO.bind ?_ (fun _ => ?_)
    · intro y0 y1 y2
      unfold gimballaw9_DrvSets.j1
      repeat' first
      | (with_reducible exact ih0 _ _)
      | (with_reducible exact ih1 _ _ _)
      | (with_reducible exact ih2 _ _ _ _ _ _ _ _ _ _ _ _ _ _ _ _ _ _ _ _ _ _ _ _ _ _)
      | (with_reducible exact drv_Set.mono _ _ _ _ _ _ _ _ _ _ _ _)
      | (with_reducible exact gimballaw9_wakes.mono _)
      | (with_reducible exact gimbalref9_May.mono _ _ _ _ _ _ _ _ _ _)
      | (with_reducible exact LeO.refl _)
      | (with_reducible exact LeO.none _)
      | (with_reducible refine LeO.ite ?_ ?_)
      | (with_reducible refine LeO.bind ?_ (fun _ => ?_))
      | exact ih0 _ _
      | exact ih1 _ _ _
      | exact ih2 _ _ _ _ _ _ _ _ _ _ _ _ _ _ _ _ _ _ _ _ _ _ _ _ _ _
      | exact drv_Set.mono _ _ _ _ _ _ _ _ _ _ _ _
      | exact gimballaw9_wakes.mono _
      | exact gimbalref9_May.mono _ _ _ _ _ _ _ _ _ _
      | exact LeO.none _
      | refine LeO.ite ?_ ?_
      | refine LeO.bind ?_ (fun _ => ?_)
    · intro y0 y1 y2 y3 y4 y5 y6 y7 y8 y9 y10 y11 y12 y13 y14 y15 y16 y17 y18 y19 y20 y21 y22 y23 y24 y25
      unfold gimballaw9_DrvSets.j2
      repeat' first
      | (with_reducible exact ih0 _ _)
      | (with_reducible exact ih1 _ _ _)
      | (with_reducible exact ih2 _ _ _ _ _ _ _ _ _ _ _ _ _ _ _ _ _ _ _ _ _ _ _ _ _ _)
      | (with_reducible exact drv_Set.mono _ _ _ _ _ _ _ _ _ _ _ _)
      | (with_reducible exact gimballaw9_wakes.mono _)
      | (with_reducible exact gimbalref9_May.mono _ _ _ _ _ _ _ _ _ _)
      | (with_reducible exact LeO.refl _)
      | (with_reducible exact LeO.none _)
      | (with_reducible refine LeO.ite ?_ ?_)
      | (with_reducible refine LeO.bind ?_ (fun _ => ?_))
      | exact ih0 _ _
      | exact ih1 _ _ _
      | exact ih2 _ _ _ _ _ _ _ _ _ _ _ _ _ _ _ _ _ _ _ _ _ _ _ _ _ _
      | exact drv_Set.mono _ _ _ _ _ _ _ _ _ _ _ _
      | exact gimballaw9_wakes.mono _
      | exact gimbalref9_May.mono _ _ _ _ _ _ _ _ _ _
      | exact LeO.none _
      | refine LeO.ite ?_ ?_
      | refine LeO.bind ?_ (fun _ => ?_)
theorem gimballaw9_DrvSets.mono : ∀ a0 k, LeO (gimballaw9_DrvSets.f k a0) (gimballaw9_DrvSets.f (k + 1) a0) := by
  intro a0 k
  obtain ⟨ih0, ih1, ih2⟩ := gimballaw9_DrvSets.mono_l k
  unfold gimballaw9_DrvSets.f
  repeat' first
      | (with_reducible exact ih0 _ _)
      | (with_reducible exact ih1 _ _ _)
      | (with_reducible exact ih2 _ _ _ _ _ _ _ _ _ _ _ _ _ _ _ _ _ _ _ _ _ _ _ _ _ _)
      | (with_reducible exact drv_Set.mono _ _ _ _ _ _ _ _ _ _ _ _)
      | (with_reducible exact gimballaw9_wakes.mono _)
      | (with_reducible exact gimbalref9_May.mono _ _ _ _ _ _ _ _ _ _)
      | (with_reducible exact LeO.refl _)
      | (with_reducible exact LeO.none _)
      | (with_reducible refine LeO.ite ?_ ?_)
      | (with_reducible refine LeO.bind ?_ (fun _ => ?_))
      | exact ih0 _ _
      | exact ih1 _ _ _
      | exact ih2 _ _ _ _ _ _ _ _ _ _ _ _ _ _ _ _ _ _ _ _ _ _ _ _ _ _
      | exact drv_Set.mono _ _ _ _ _ _ _ _ _ _ _ _
      | exact gimballaw9_wakes.mono _
      | exact gimbalref9_May.mono _ _ _ _ _ _ _ _ _ _
      | exact LeO.none _
      | refine LeO.ite ?_ ?_
      | refine LeO.bind ?_ (fun _ => ?_)
def gimballaw9_DrvSets.T10 : Bool × List (List Nat × List Nat) := (true, [([], []), ([0], [0]), ([1], [1]), ([2, 1], [2]), ([3], [3]), ([4, 3, 3], [3, 4]), ([5, 3], [3, 5]), ([3, 6], [3, 6]), ([7, 5], [7]), ([8], [8]), ([8], [8]), ([10, 8], [8, 10]), ([8], [8]), ([12, 8], [8, 12]), ([8], [8]), ([14, 8], [8, 14]), ([11, 13, 15, 8, 8], [8, 11, 13, 15]), ([9, 16, 8], [8, 9, 16]), ([8, 17], [8, 17]), ([18, 16], [18]), ([19], [19]), ([19], [19]), ([20, 21, 19], [19, 20, 21]), ([19, 22], [19, 22]), ([23, 19], [23]), ([24], [24]), ([25, 24], [24, 25]), ([24], [24]), ([27, 24], [24, 27]), ([26, 28, 24], [24, 26, 28]), ([24, 29], [24, 29]), ([30, 24], [30]), ([31], [31]), ([32, 31], [31, 32]), ([31], [31]), ([34, 31], [31, 34]), ([33, 35, 31], [31, 33, 35]), ([31, 36], [31, 36]), ([37, 31], [37]), ([38], [38]), ([39, 38], [38, 39]), ([38], [38]), ([41, 38], [38, 41]), ([42, 38], [38, 42]), ([40, 43, 38], [38, 40, 43]), ([38, 44], [38, 44]), ([45, 38], [45]), ([46], [46]), ([47, 46], [46, 47]), ([46], [46]), ([49, 46], [46, 49]), ([50, 46], [46, 50]), ([48, 51, 46], [46, 48, 51]), ([46, 52], [46, 52])])
def gimballaw9_DrvSets.B10 : List Nat := [0, 1, 3, 7, 15, 31, 63, 127, 255, 511, 511, 1535, 511, 4607, 511, 16895, 65023, 131071, 262143, 524287, 1048575, 1048575, 4194303, 8388607, 16777215, 33554431, 67108863, 33554431, 167772159, 536870911, 1073741823, 2147483647, 4294967295, 8589934591, 4294967295, 21474836479, 68719476735, 137438953471, 274877906943, 549755813887, 1099511627775, 549755813887, 2748779069439, 7146825580543, 17592186044415, 35184372088831, 70368744177663, 140737488355327, 281474976710655, 140737488355327, 703687441776639, 1829587348619263, 4503599627370495, 9007199254740991]
theorem gimballaw9_DrvSets.tab10 : rtab .any (opsOf Try.f4 10) = gimballaw9_DrvSets.T10 := by kernel_rfl
theorem gimballaw9_DrvSets.bits10 : waitsOk gimballaw9_DrvSets.T10.2 gimballaw9_DrvSets.B10 = true := by kernel_rfl
set_option maxHeartbeats 8000000 in
set_option maxRecDepth 100000 in
theorem gimballaw9_DrvSets.calls (k : Nat) (A0 : Option Addr) (c0 : Nat) (l0 : List (S29)) (r : Bool) (w : World) (hr0 : Kd.C k29 w A0 l0.length l0) (hc0 : l0.length ≤ c0) (h : gimballaw9_DrvSets.f k l0 = some r) (hrt_ : Aside0 (r = true)) :
    Calls Try.prog 4 #[.slice A0 l0.length c0] w fun e w' => e = .returned (.bool r) ∧ Below w.heap.size w w' := by
  have hu29 := Try.underlying29
  have hu24 := Try.underlying24
  have HR0 := Aside0.mk hr0
  have HC0 := Aside0.mk hc0
  clear hr0 hc0
  have HB := Aside0.mk (Below.refl w.heap.size w)
  have H : (gimballaw9_DrvSets.l0 k l0 0) = some r := h
  clear h
  have H' := Aside0.mk H
  clear H
  go_enter Try.func4, Try.ntmps4
  go_wp2
  go_loopg [3] k (fun kq v3 w' => ∃ (x3_1 : Int), v3 = .int .i64 x3_1 ∧ Aside0 (gimballaw9_DrvSets.l0 kq l0 x3_1 = some r) ∧ Aside0 (kq ≤ k) ∧ Aside0 (Below w.heap.size w w'))
  case atStart => exact ⟨(0), (by first | rfl | (simp; done) | (simp [*]; done)), H', ⟨Nat.le_refl _⟩, ⟨by repeat (first | (with_reducible first | exact HB.out | apply below_alloc | apply pw_below_drewN | apply below_drew1) | exact HB.out)⟩⟩
  case round =>
    clear H'
    obtain ⟨x3_1, rfl, HA, HK1, HB⟩ := hrel
    cases gk with
    | zero => exact absurd HA.out (by simp [gimballaw9_DrvSets.l0])
    | succ k1 =>
      have H := HA.out
      clear HA
      simp only [gimballaw9_DrvSets.l0] at H
      have HC2 := Aside0.mk H
      clear H
      go_upto_region 2 with (fail)
      go_cut [16] (fun v16 wc => ∃ (kq : Nat) (x16_1 : Bool), v16 = .bool x16_1 ∧ Aside0 (gimballaw9_DrvSets.j1 kq l0 x3_1 x16_1 = some r) ∧ Aside0 (kq ≤ k1) ∧ Aside0 (Below w.heap.size w wc))
      case first =>
        have H := HC2.out
        clear HC2
        by_cases c3 : x3_1 < (l0.length : Int)
        · rw [if_pos c3] at H
          have c3b0 : decide (x3_1 < (l0.length : Int)) = true := decide_eq_true c3
          clear c3
          (first | rw [c3b0] | (simp only [i64_w, i32_w]; rw [c3b0]) | skip)
          have H' := Aside0.mk H
          clear H
          go_wp2
          go_meet
          case rel => exact ⟨_, (decide (x3_1 < 30)), (by first | rfl | (simp; done) | (simp [*]; done)), H', ⟨by have := HK1.out; first | omega | exact Nat.le_refl _⟩, ⟨by repeat (first | (with_reducible first | exact HB.out | apply below_alloc | apply pw_below_drewN | apply below_drew1) | exact HB.out)⟩⟩
        · rw [if_neg c3] at H
          have c3b0 : decide (x3_1 < (l0.length : Int)) = false := decide_eq_false c3
          clear c3
          (first | rw [c3b0] | (simp only [i64_w, i32_w]; rw [c3b0]) | skip)
          have H' := Aside0.mk H
          clear H
          go_wp2
          go_meet
          case rel => exact ⟨_, (false), (by first | rfl | (simp; done) | (simp [*]; done)), H', ⟨by have := HK1.out; first | omega | exact Nat.le_refl _⟩, ⟨by repeat (first | (with_reducible first | exact HB.out | apply below_alloc | apply pw_below_drewN | apply below_drew1) | exact HB.out)⟩⟩
      case rest =>
        clear HC2
        try clear p2
        try clear c3
        try clear c3b0
        obtain ⟨kq, x16_1, rfl, HA, HJ1, HB⟩ := hcut
        cases kq with
        | zero => exact absurd HA.out (by simp [gimballaw9_DrvSets.j1])
        | succ kj1 =>
          have H := HA.out
          clear HA
          simp only [gimballaw9_DrvSets.j1] at H
          by_cases c4 : x16_1 = true
          · subst c4
            have H1 : (if 0 ≤ x3_1 then (if x3_1 < (l0.length : Int) then ((drv_Set.f kj1 ((rd_T29 l0 x3_1).f0.f0) ((rd_T29 l0 x3_1).f0.f1) ((rd_T29 l0 x3_1).f0.f2) ((rd_T29 l0 x3_1).f0.f3) ((rd_T29 l0 x3_1).f0.f4) ((rd_T29 l0 x3_1).f0.f5) ((rd_T29 l0 x3_1).f0.f6) ((rd_T29 l0 x3_1).f0.f7) ((rd_T29 l0 x3_1).f0.f8) ((rd_T29 l0 x3_1).f1) ((rd_T29 l0 x3_1).f2)).bind fun bt147 => ((gimbalref9_May.f kj1 ((rd_T29 l0 x3_1).f0.f0) ((rd_T29 l0 x3_1).f0.f1) ((rd_T29 l0 x3_1).f0.f2) ((rd_T29 l0 x3_1).f0.f3) ((rd_T29 l0 x3_1).f0.f4) ((rd_T29 l0 x3_1).f0.f5) ((rd_T29 l0 x3_1).f0.f6) ((rd_T29 l0 x3_1).f0.f7) ((rd_T29 l0 x3_1).f0.f8)).bind fun t158 => (if t158 = true then (if ((rd_T29 l0 x3_1).f2) < 1 then (gimballaw9_DrvSets.j2 kj1 l0 x3_1 bt147.2.2.2.2.2.2.2.2.2 true ((rd_T29 l0 x3_1).f0.f0) ((rd_T29 l0 x3_1).f0.f1) ((rd_T29 l0 x3_1).f0.f2) ((rd_T29 l0 x3_1).f0.f3) ((rd_T29 l0 x3_1).f0.f4) ((rd_T29 l0 x3_1).f0.f5) ((rd_T29 l0 x3_1).f0.f6) ((rd_T29 l0 x3_1).f0.f7) ((rd_T29 l0 x3_1).f0.f8) ((rd_T29 l0 x3_1).f1) ((rd_T29 l0 x3_1).f2) ((rd_T29 l0 x3_1).f3.f0) ((rd_T29 l0 x3_1).f3.f1) bt147.1 bt147.2.1 bt147.2.2.1 bt147.2.2.2.1 bt147.2.2.2.2.1 bt147.2.2.2.2.2.1 bt147.2.2.2.2.2.2.1 bt147.2.2.2.2.2.2.2.1 bt147.2.2.2.2.2.2.2.2.1) else (gimballaw9_DrvSets.j2 kj1 l0 x3_1 bt147.2.2.2.2.2.2.2.2.2 (decide (((rd_T29 l0 x3_1).f2) > 250)) ((rd_T29 l0 x3_1).f0.f0) ((rd_T29 l0 x3_1).f0.f1) ((rd_T29 l0 x3_1).f0.f2) ((rd_T29 l0 x3_1).f0.f3) ((rd_T29 l0 x3_1).f0.f4) ((rd_T29 l0 x3_1).f0.f5) ((rd_T29 l0 x3_1).f0.f6) ((rd_T29 l0 x3_1).f0.f7) ((rd_T29 l0 x3_1).f0.f8) ((rd_T29 l0 x3_1).f1) ((rd_T29 l0 x3_1).f2) ((rd_T29 l0 x3_1).f3.f0) ((rd_T29 l0 x3_1).f3.f1) bt147.1 bt147.2.1 bt147.2.2.1 bt147.2.2.2.1 bt147.2.2.2.2.1 bt147.2.2.2.2.2.1 bt147.2.2.2.2.2.2.1 bt147.2.2.2.2.2.2.2.1 bt147.2.2.2.2.2.2.2.2.1)) else (gimballaw9_DrvSets.j2 kj1 l0 x3_1 bt147.2.2.2.2.2.2.2.2.2 true ((rd_T29 l0 x3_1).f0.f0) ((rd_T29 l0 x3_1).f0.f1) ((rd_T29 l0 x3_1).f0.f2) ((rd_T29 l0 x3_1).f0.f3) ((rd_T29 l0 x3_1).f0.f4) ((rd_T29 l0 x3_1).f0.f5) ((rd_T29 l0 x3_1).f0.f6) ((rd_T29 l0 x3_1).f0.f7) ((rd_T29 l0 x3_1).f0.f8) ((rd_T29 l0 x3_1).f1) ((rd_T29 l0 x3_1).f2) ((rd_T29 l0 x3_1).f3.f0) ((rd_T29 l0 x3_1).f3.f1) bt147.1 bt147.2.1 bt147.2.2.1 bt147.2.2.2.1 bt147.2.2.2.2.1 bt147.2.2.2.2.2.1 bt147.2.2.2.2.2.2.1 bt147.2.2.2.2.2.2.2.1 bt147.2.2.2.2.2.2.2.2.1)))) else (none)) else (none)) = some r := by rw [if_pos rfl] at H; exact H
            clear H
            have H := H1
            clear H1
            by_cases c5 : 0 ≤ x3_1
            · rw [if_pos c5] at H
              have c5b0 : decide (0 ≤ x3_1) = true := decide_eq_true c5
              clear c5
              by_cases c6 : x3_1 < (l0.length : Int)
              · rw [if_pos c6] at H
                have c6b0 : decide (x3_1 < (l0.length : Int)) = true := decide_eq_true c6
                clear c6
                replace H := Option.bind_eq_some_iff.mp H
                obtain ⟨⟨t147, t148, t149, t150, t151, t152, t153, t154, t155, t156⟩, A70, H⟩ := H
                replace H : ((gimbalref9_May.f kj1 ((rd_T29 l0 x3_1).f0.f0) ((rd_T29 l0 x3_1).f0.f1) ((rd_T29 l0 x3_1).f0.f2) ((rd_T29 l0 x3_1).f0.f3) ((rd_T29 l0 x3_1).f0.f4) ((rd_T29 l0 x3_1).f0.f5) ((rd_T29 l0 x3_1).f0.f6) ((rd_T29 l0 x3_1).f0.f7) ((rd_T29 l0 x3_1).f0.f8)).bind fun t158 => (if t158 = true then (if ((rd_T29 l0 x3_1).f2) < 1 then (gimballaw9_DrvSets.j2 kj1 l0 x3_1 t156 true ((rd_T29 l0 x3_1).f0.f0) ((rd_T29 l0 x3_1).f0.f1) ((rd_T29 l0 x3_1).f0.f2) ((rd_T29 l0 x3_1).f0.f3) ((rd_T29 l0 x3_1).f0.f4) ((rd_T29 l0 x3_1).f0.f5) ((rd_T29 l0 x3_1).f0.f6) ((rd_T29 l0 x3_1).f0.f7) ((rd_T29 l0 x3_1).f0.f8) ((rd_T29 l0 x3_1).f1) ((rd_T29 l0 x3_1).f2) ((rd_T29 l0 x3_1).f3.f0) ((rd_T29 l0 x3_1).f3.f1) t147 t148 t149 t150 t151 t152 t153 t154 t155) else (gimballaw9_DrvSets.j2 kj1 l0 x3_1 t156 (decide (((rd_T29 l0 x3_1).f2) > 250)) ((rd_T29 l0 x3_1).f0.f0) ((rd_T29 l0 x3_1).f0.f1) ((rd_T29 l0 x3_1).f0.f2) ((rd_T29 l0 x3_1).f0.f3) ((rd_T29 l0 x3_1).f0.f4) ((rd_T29 l0 x3_1).f0.f5) ((rd_T29 l0 x3_1).f0.f6) ((rd_T29 l0 x3_1).f0.f7) ((rd_T29 l0 x3_1).f0.f8) ((rd_T29 l0 x3_1).f1) ((rd_T29 l0 x3_1).f2) ((rd_T29 l0 x3_1).f3.f0) ((rd_T29 l0 x3_1).f3.f1) t147 t148 t149 t150 t151 t152 t153 t154 t155)) else (gimballaw9_DrvSets.j2 kj1 l0 x3_1 t156 true ((rd_T29 l0 x3_1).f0.f0) ((rd_T29 l0 x3_1).f0.f1) ((rd_T29 l0 x3_1).f0.f2) ((rd_T29 l0 x3_1).f0.f3) ((rd_T29 l0 x3_1).f0.f4) ((rd_T29 l0 x3_1).f0.f5) ((rd_T29 l0 x3_1).f0.f6) ((rd_T29 l0 x3_1).f0.f7) ((rd_T29 l0 x3_1).f0.f8) ((rd_T29 l0 x3_1).f1) ((rd_T29 l0 x3_1).f2) ((rd_T29 l0 x3_1).f3.f0) ((rd_T29 l0 x3_1).f3.f1) t147 t148 t149 t150 t151 t152 t153 t154 t155))) = some r := H
                have A7 := Aside0.mk A70
                clear A70
                have HC8 := Aside0.mk H
                clear H
                have p145 : 0 ≤ (x3_1 : Int) := of_decide_eq_true (by first | (with_reducible assumption) | assumption)
                have q145 : x3_1 < (l0.length : Int) := of_decide_eq_true (by first | (with_reducible assumption) | assumption)
                obtain ⟨ad145, A145_12, c145_12, e145, hx145_0, hx145_1, hx145_2, hx145_3, hx145_4, hx145_5, hx145_6, hx145_7, hx145_8, hx145_9, hx145_10, hx145_11, hx145_12, hl145_12, hi145_12⟩ := at_T29 HR0.out x3_1 p145 q145
                cases e145
                replace hx145_0 := (HB.out.cell (World.block_lt_of_cell? w _ hx145_0)).trans hx145_0
                replace hx145_1 := (HB.out.cell (World.block_lt_of_cell? w _ hx145_1)).trans hx145_1
                replace hx145_2 := (HB.out.cell (World.block_lt_of_cell? w _ hx145_2)).trans hx145_2
                replace hx145_3 := (HB.out.cell (World.block_lt_of_cell? w _ hx145_3)).trans hx145_3
                replace hx145_4 := (HB.out.cell (World.block_lt_of_cell? w _ hx145_4)).trans hx145_4
                replace hx145_5 := (HB.out.cell (World.block_lt_of_cell? w _ hx145_5)).trans hx145_5
                replace hx145_6 := (HB.out.cell (World.block_lt_of_cell? w _ hx145_6)).trans hx145_6
                replace hx145_7 := (HB.out.cell (World.block_lt_of_cell? w _ hx145_7)).trans hx145_7
                replace hx145_8 := (HB.out.cell (World.block_lt_of_cell? w _ hx145_8)).trans hx145_8
                replace hx145_9 := (HB.out.cell (World.block_lt_of_cell? w _ hx145_9)).trans hx145_9
                replace hx145_10 := (HB.out.cell (World.block_lt_of_cell? w _ hx145_10)).trans hx145_10
                replace hx145_11 := (HB.out.cell (World.block_lt_of_cell? w _ hx145_11)).trans hx145_11
                replace hx145_12 := (HB.out.cell (World.block_lt_of_cell? w _ hx145_12)).trans hx145_12
                have HR145_12 := Aside0.mk hi145_12
                have HC145_12 := Aside0.mk hl145_12
                clear hi145_12 hl145_12
                replace p145 := eq_true p145
                replace q145 := eq_true q145
                go_upto_region 6 with (first | ((with_reducible refine gate_dst (N := 4) rfl ?_); refine box_event ?hg (N := 4) ?hd (cs := #[.int .i64 0, .int .i64 0, .bool false, .int .i64 0, .int .i64 0, .int .i64 0, .bool false, .int .i64 0, .int .i64 0, .bool false, .int .i64 0, .int .i64 0, .slice none 0 0]) (t := 29) ?hr ?_; (case hd => rfl); (case hg => rfl); (case hr => first | (go_simp; done) | (go_simp; rfl)); intro gb146 hg w9 hbox hb; have n0_ := Aside0.mk (below_step (by repeat (first | (with_reducible first | exact HB.out | apply below_alloc | apply pw_below_drewN | apply below_drew1) | exact HB.out)) hb); have n1_ := Aside0.mk (hbox); have n2_ := Aside0.mk ((by rw [hg]; exact (below_size (by repeat (first | (with_reducible first | exact HB.out | apply below_alloc | apply pw_below_drewN | apply below_drew1) | exact HB.out))) : w.heap.size ≤ gb146)); have n3_ := Aside0.mk ((by rw [hg]; exact (below_size (by repeat (first | (with_reducible first | exact HB.out | apply below_alloc | apply pw_below_drewN | apply below_drew1) | exact HB.out))) : w.heap.size ≤ gb146)); clear HB; have HB := n0_; have BK146 := n1_; have GW146 := n2_; have GE146 := n3_; clear n0_ n1_ n2_ n3_; clear hb hbox hg; have hcz10_0 : w9.cell? ⟨gb146, 0, none⟩ = some (.int .i64 0) := (blk_cell BK146.out 0).trans rfl; have hcz10_1 : w9.cell? ⟨gb146, 1, none⟩ = some (.int .i64 0) := (blk_cell BK146.out 1).trans rfl; have hcz10_2 : w9.cell? ⟨gb146, 2, none⟩ = some (.bool false) := (blk_cell BK146.out 2).trans rfl; have hcz10_3 : w9.cell? ⟨gb146, 3, none⟩ = some (.int .i64 0) := (blk_cell BK146.out 3).trans rfl; have hcz10_4 : w9.cell? ⟨gb146, 4, none⟩ = some (.int .i64 0) := (blk_cell BK146.out 4).trans rfl; have hcz10_5 : w9.cell? ⟨gb146, 5, none⟩ = some (.int .i64 0) := (blk_cell BK146.out 5).trans rfl; have hcz10_6 : w9.cell? ⟨gb146, 6, none⟩ = some (.bool false) := (blk_cell BK146.out 6).trans rfl; have hcz10_7 : w9.cell? ⟨gb146, 7, none⟩ = some (.int .i64 0) := (blk_cell BK146.out 7).trans rfl; have hcz10_8 : w9.cell? ⟨gb146, 8, none⟩ = some (.int .i64 0) := (blk_cell BK146.out 8).trans rfl; have hcz10_9 : w9.cell? ⟨gb146, 9, none⟩ = some (.bool false) := (blk_cell BK146.out 9).trans rfl; have hcz10_10 : w9.cell? ⟨gb146, 10, none⟩ = some (.int .i64 0) := (blk_cell BK146.out 10).trans rfl; have hcz10_11 : w9.cell? ⟨gb146, 11, none⟩ = some (.int .i64 0) := (blk_cell BK146.out 11).trans rfl; have hcz10_12 : w9.cell? ⟨gb146, 12, none⟩ = some (.slice none 0 0) := (blk_cell BK146.out 12).trans rfl; have hfz10_0 := blk_frozen BK146.out 0; have hfz10_1 := blk_frozen BK146.out 1; have hfz10_2 := blk_frozen BK146.out 2; have hfz10_3 := blk_frozen BK146.out 3; have hfz10_4 := blk_frozen BK146.out 4; have hfz10_5 := blk_frozen BK146.out 5; have hfz10_6 := blk_frozen BK146.out 6; have hfz10_7 := blk_frozen BK146.out 7; have hfz10_8 := blk_frozen BK146.out 8; have hfz10_9 := blk_frozen BK146.out 9; have hfz10_10 := blk_frozen BK146.out 10; have hfz10_11 := blk_frozen BK146.out 11; have hfz10_12 := blk_frozen BK146.out 12) | ((with_reducible refine gate_callee (f := 14) rfl ?_); refine goesL_ (some 30) rfl rfl Try.func14 (by kernel_rfl) rfl #[.agg #[.int .i64 ((rd_T29 l0 x3_1).f0.f0), .int .i64 ((rd_T29 l0 x3_1).f0.f1), .bool ((rd_T29 l0 x3_1).f0.f2), .int .i64 ((rd_T29 l0 x3_1).f0.f3), .int .i64 ((rd_T29 l0 x3_1).f0.f4), .int .i64 ((rd_T29 l0 x3_1).f0.f5), .bool ((rd_T29 l0 x3_1).f0.f6), .int .i64 ((rd_T29 l0 x3_1).f0.f7), .int .i64 ((rd_T29 l0 x3_1).f0.f8)], .bool ((rd_T29 l0 x3_1).f1), .int .i64 ((rd_T29 l0 x3_1).f2)] rfl (by (try simp only [List.map_toArray, List.map_cons, List.map_nil]); first | done | rfl | (simp only [List.length_drop, List.length_take]; rfl)) ?_; (with_reducible refine (drv_Set.calls kj1 ((rd_T29 l0 x3_1).f0.f0) ((rd_T29 l0 x3_1).f0.f1) ((rd_T29 l0 x3_1).f0.f2) ((rd_T29 l0 x3_1).f0.f3) ((rd_T29 l0 x3_1).f0.f4) ((rd_T29 l0 x3_1).f0.f5) ((rd_T29 l0 x3_1).f0.f6) ((rd_T29 l0 x3_1).f0.f7) ((rd_T29 l0 x3_1).f0.f8) ((rd_T29 l0 x3_1).f1) ((rd_T29 l0 x3_1).f2) t147 t148 t149 t150 t151 t152 t153 t154 t155 t156 _ A7.out).mono ?_); rintro e w11 ⟨rfl, hb⟩; refine ⟨_, rfl, ?_⟩; have n0_ := Aside0.mk (blk_below (g := gb146) (o := .cells #[.int .i64 ((rd_T29 l0 x3_1).f0.f0), .int .i64 ((rd_T29 l0 x3_1).f0.f1), .bool ((rd_T29 l0 x3_1).f0.f2), .int .i64 ((rd_T29 l0 x3_1).f0.f3), .int .i64 ((rd_T29 l0 x3_1).f0.f4), .int .i64 ((rd_T29 l0 x3_1).f0.f5), .bool ((rd_T29 l0 x3_1).f0.f6), .int .i64 ((rd_T29 l0 x3_1).f0.f7), .int .i64 ((rd_T29 l0 x3_1).f0.f8), .bool ((rd_T29 l0 x3_1).f1), .int .i64 ((rd_T29 l0 x3_1).f2), .int .i64 ((rd_T29 l0 x3_1).f3.f0), .slice A145_12 ((rd_T29 l0 x3_1).f3.f1).length c145_12] 29 (0, 0)) (by (with_reducible repeat (first | refine blk_drewN ?_ _ | refine blk_drew ?_ | refine blk_alloc ?_ _)); refine blk_put (cs := #[.int .i64 ((rd_T29 l0 x3_1).f0.f0), .int .i64 ((rd_T29 l0 x3_1).f0.f1), .bool ((rd_T29 l0 x3_1).f0.f2), .int .i64 ((rd_T29 l0 x3_1).f0.f3), .int .i64 ((rd_T29 l0 x3_1).f0.f4), .int .i64 ((rd_T29 l0 x3_1).f0.f5), .bool ((rd_T29 l0 x3_1).f0.f6), .int .i64 ((rd_T29 l0 x3_1).f0.f7), .int .i64 ((rd_T29 l0 x3_1).f0.f8), .bool ((rd_T29 l0 x3_1).f1), .int .i64 ((rd_T29 l0 x3_1).f2), .int .i64 ((rd_T29 l0 x3_1).f3.f0), .slice none 0 0]) ?_ 12 _ rfl; (with_reducible repeat (first | refine blk_drewN ?_ _ | refine blk_drew ?_ | refine blk_alloc ?_ _)); refine blk_put (cs := #[.int .i64 ((rd_T29 l0 x3_1).f0.f0), .int .i64 ((rd_T29 l0 x3_1).f0.f1), .bool ((rd_T29 l0 x3_1).f0.f2), .int .i64 ((rd_T29 l0 x3_1).f0.f3), .int .i64 ((rd_T29 l0 x3_1).f0.f4), .int .i64 ((rd_T29 l0 x3_1).f0.f5), .bool ((rd_T29 l0 x3_1).f0.f6), .int .i64 ((rd_T29 l0 x3_1).f0.f7), .int .i64 ((rd_T29 l0 x3_1).f0.f8), .bool ((rd_T29 l0 x3_1).f1), .int .i64 ((rd_T29 l0 x3_1).f2), .int .i64 0, .slice none 0 0]) ?_ 11 _ rfl; (with_reducible repeat (first | refine blk_drewN ?_ _ | refine blk_drew ?_ | refine blk_alloc ?_ _)); refine blk_put (cs := #[.int .i64 ((rd_T29 l0 x3_1).f0.f0), .int .i64 ((rd_T29 l0 x3_1).f0.f1), .bool ((rd_T29 l0 x3_1).f0.f2), .int .i64 ((rd_T29 l0 x3_1).f0.f3), .int .i64 ((rd_T29 l0 x3_1).f0.f4), .int .i64 ((rd_T29 l0 x3_1).f0.f5), .bool ((rd_T29 l0 x3_1).f0.f6), .int .i64 ((rd_T29 l0 x3_1).f0.f7), .int .i64 ((rd_T29 l0 x3_1).f0.f8), .bool ((rd_T29 l0 x3_1).f1), .int .i64 0, .int .i64 0, .slice none 0 0]) ?_ 10 _ rfl; (with_reducible repeat (first | refine blk_drewN ?_ _ | refine blk_drew ?_ | refine blk_alloc ?_ _)); refine blk_put (cs := #[.int .i64 ((rd_T29 l0 x3_1).f0.f0), .int .i64 ((rd_T29 l0 x3_1).f0.f1), .bool ((rd_T29 l0 x3_1).f0.f2), .int .i64 ((rd_T29 l0 x3_1).f0.f3), .int .i64 ((rd_T29 l0 x3_1).f0.f4), .int .i64 ((rd_T29 l0 x3_1).f0.f5), .bool ((rd_T29 l0 x3_1).f0.f6), .int .i64 ((rd_T29 l0 x3_1).f0.f7), .int .i64 ((rd_T29 l0 x3_1).f0.f8), .bool false, .int .i64 0, .int .i64 0, .slice none 0 0]) ?_ 9 _ rfl; (with_reducible repeat (first | refine blk_drewN ?_ _ | refine blk_drew ?_ | refine blk_alloc ?_ _)); refine blk_put (cs := #[.int .i64 ((rd_T29 l0 x3_1).f0.f0), .int .i64 ((rd_T29 l0 x3_1).f0.f1), .bool ((rd_T29 l0 x3_1).f0.f2), .int .i64 ((rd_T29 l0 x3_1).f0.f3), .int .i64 ((rd_T29 l0 x3_1).f0.f4), .int .i64 ((rd_T29 l0 x3_1).f0.f5), .bool ((rd_T29 l0 x3_1).f0.f6), .int .i64 ((rd_T29 l0 x3_1).f0.f7), .int .i64 0, .bool false, .int .i64 0, .int .i64 0, .slice none 0 0]) ?_ 8 _ rfl; (with_reducible repeat (first | refine blk_drewN ?_ _ | refine blk_drew ?_ | refine blk_alloc ?_ _)); refine blk_put (cs := #[.int .i64 ((rd_T29 l0 x3_1).f0.f0), .int .i64 ((rd_T29 l0 x3_1).f0.f1), .bool ((rd_T29 l0 x3_1).f0.f2), .int .i64 ((rd_T29 l0 x3_1).f0.f3), .int .i64 ((rd_T29 l0 x3_1).f0.f4), .int .i64 ((rd_T29 l0 x3_1).f0.f5), .bool ((rd_T29 l0 x3_1).f0.f6), .int .i64 0, .int .i64 0, .bool false, .int .i64 0, .int .i64 0, .slice none 0 0]) ?_ 7 _ rfl; (with_reducible repeat (first | refine blk_drewN ?_ _ | refine blk_drew ?_ | refine blk_alloc ?_ _)); refine blk_put (cs := #[.int .i64 ((rd_T29 l0 x3_1).f0.f0), .int .i64 ((rd_T29 l0 x3_1).f0.f1), .bool ((rd_T29 l0 x3_1).f0.f2), .int .i64 ((rd_T29 l0 x3_1).f0.f3), .int .i64 ((rd_T29 l0 x3_1).f0.f4), .int .i64 ((rd_T29 l0 x3_1).f0.f5), .bool false, .int .i64 0, .int .i64 0, .bool false, .int .i64 0, .int .i64 0, .slice none 0 0]) ?_ 6 _ rfl; (with_reducible repeat (first | refine blk_drewN ?_ _ | refine blk_drew ?_ | refine blk_alloc ?_ _)); refine blk_put (cs := #[.int .i64 ((rd_T29 l0 x3_1).f0.f0), .int .i64 ((rd_T29 l0 x3_1).f0.f1), .bool ((rd_T29 l0 x3_1).f0.f2), .int .i64 ((rd_T29 l0 x3_1).f0.f3), .int .i64 ((rd_T29 l0 x3_1).f0.f4), .int .i64 0, .bool false, .int .i64 0, .int .i64 0, .bool false, .int .i64 0, .int .i64 0, .slice none 0 0]) ?_ 5 _ rfl; (with_reducible repeat (first | refine blk_drewN ?_ _ | refine blk_drew ?_ | refine blk_alloc ?_ _)); refine blk_put (cs := #[.int .i64 ((rd_T29 l0 x3_1).f0.f0), .int .i64 ((rd_T29 l0 x3_1).f0.f1), .bool ((rd_T29 l0 x3_1).f0.f2), .int .i64 ((rd_T29 l0 x3_1).f0.f3), .int .i64 0, .int .i64 0, .bool false, .int .i64 0, .int .i64 0, .bool false, .int .i64 0, .int .i64 0, .slice none 0 0]) ?_ 4 _ rfl; (with_reducible repeat (first | refine blk_drewN ?_ _ | refine blk_drew ?_ | refine blk_alloc ?_ _)); refine blk_put (cs := #[.int .i64 ((rd_T29 l0 x3_1).f0.f0), .int .i64 ((rd_T29 l0 x3_1).f0.f1), .bool ((rd_T29 l0 x3_1).f0.f2), .int .i64 0, .int .i64 0, .int .i64 0, .bool false, .int .i64 0, .int .i64 0, .bool false, .int .i64 0, .int .i64 0, .slice none 0 0]) ?_ 3 _ rfl; (with_reducible repeat (first | refine blk_drewN ?_ _ | refine blk_drew ?_ | refine blk_alloc ?_ _)); refine blk_put (cs := #[.int .i64 ((rd_T29 l0 x3_1).f0.f0), .int .i64 ((rd_T29 l0 x3_1).f0.f1), .bool false, .int .i64 0, .int .i64 0, .int .i64 0, .bool false, .int .i64 0, .int .i64 0, .bool false, .int .i64 0, .int .i64 0, .slice none 0 0]) ?_ 2 _ rfl; (with_reducible repeat (first | refine blk_drewN ?_ _ | refine blk_drew ?_ | refine blk_alloc ?_ _)); refine blk_put (cs := #[.int .i64 ((rd_T29 l0 x3_1).f0.f0), .int .i64 0, .bool false, .int .i64 0, .int .i64 0, .int .i64 0, .bool false, .int .i64 0, .int .i64 0, .bool false, .int .i64 0, .int .i64 0, .slice none 0 0]) ?_ 1 _ rfl; (with_reducible repeat (first | refine blk_drewN ?_ _ | refine blk_drew ?_ | refine blk_alloc ?_ _)); refine blk_put (cs := #[.int .i64 0, .int .i64 0, .bool false, .int .i64 0, .int .i64 0, .int .i64 0, .bool false, .int .i64 0, .int .i64 0, .bool false, .int .i64 0, .int .i64 0, .slice none 0 0]) ?_ 0 _ rfl; (with_reducible repeat (first | refine blk_drewN ?_ _ | refine blk_drew ?_ | refine blk_alloc ?_ _)); exact BK146.out) hb); have n1_ := Aside0.mk (below_step (by repeat (first | (with_reducible first | exact HB.out | apply below_alloc | apply pw_below_drewN | apply below_drew1 | refine below_set ?_ GE146.out) | exact HB.out)) hb); clear BK146; clear HB; have BK146 := n0_; have HB := n1_; clear n0_ n1_; (try clear hb); (try clear hb2); (try clear hk); (try clear hi)) | ((with_reducible refine gate_dst (N := 5) rfl ?_); refine box_event ?hg (N := 5) ?hd (cs := #[.int .i64 0, .int .i64 0, .bool false, .int .i64 0, .int .i64 0, .int .i64 0, .bool false, .int .i64 0, .int .i64 0]) (t := 24) ?hr ?_; (case hd => rfl); (case hg => rfl); (case hr => first | (go_simp; done) | (go_simp; rfl)); intro gb157 hg w12 hbox hb; have n0_ := Aside0.mk (blk_below (g := gb146) (o := .cells #[.int .i64 ((rd_T29 l0 x3_1).f0.f0), .int .i64 ((rd_T29 l0 x3_1).f0.f1), .bool ((rd_T29 l0 x3_1).f0.f2), .int .i64 ((rd_T29 l0 x3_1).f0.f3), .int .i64 ((rd_T29 l0 x3_1).f0.f4), .int .i64 ((rd_T29 l0 x3_1).f0.f5), .bool ((rd_T29 l0 x3_1).f0.f6), .int .i64 ((rd_T29 l0 x3_1).f0.f7), .int .i64 ((rd_T29 l0 x3_1).f0.f8), .bool ((rd_T29 l0 x3_1).f1), .int .i64 ((rd_T29 l0 x3_1).f2), .int .i64 ((rd_T29 l0 x3_1).f3.f0), .slice A145_12 ((rd_T29 l0 x3_1).f3.f1).length c145_12] 29 (0, 0)) (by (with_reducible repeat (first | refine blk_drewN ?_ _ | refine blk_drew ?_ | refine blk_alloc ?_ _)); exact BK146.out) hb); have n1_ := Aside0.mk (below_step (by repeat (first | (with_reducible first | exact HB.out | apply below_alloc | apply pw_below_drewN | apply below_drew1 | refine below_set ?_ GE146.out) | exact HB.out)) hb); have n2_ := Aside0.mk (hbox); have n3_ := Aside0.mk ((by rw [hg]; exact (below_size (by repeat (first | (with_reducible first | exact HB.out | apply below_alloc | apply pw_below_drewN | apply below_drew1 | refine below_set ?_ GE146.out) | exact HB.out))) : w.heap.size ≤ gb157)); have n4_ := Aside0.mk ((by rw [hg]; exact (below_size (by repeat (first | (with_reducible first | exact HB.out | apply below_alloc | apply pw_below_drewN | apply below_drew1 | refine below_set ?_ GE146.out) | exact HB.out))) : w.heap.size ≤ gb157)); have n5_ := Aside0.mk ((by rw [hg]; exact Nat.ne_of_lt (blk_lt (g := gb146) (o := .cells #[.int .i64 ((rd_T29 l0 x3_1).f0.f0), .int .i64 ((rd_T29 l0 x3_1).f0.f1), .bool ((rd_T29 l0 x3_1).f0.f2), .int .i64 ((rd_T29 l0 x3_1).f0.f3), .int .i64 ((rd_T29 l0 x3_1).f0.f4), .int .i64 ((rd_T29 l0 x3_1).f0.f5), .bool ((rd_T29 l0 x3_1).f0.f6), .int .i64 ((rd_T29 l0 x3_1).f0.f7), .int .i64 ((rd_T29 l0 x3_1).f0.f8), .bool ((rd_T29 l0 x3_1).f1), .int .i64 ((rd_T29 l0 x3_1).f2), .int .i64 ((rd_T29 l0 x3_1).f3.f0), .slice A145_12 ((rd_T29 l0 x3_1).f3.f1).length c145_12] 29 (0, 0)) (by (with_reducible repeat (first | refine blk_drewN ?_ _ | refine blk_drew ?_ | refine blk_alloc ?_ _)); exact BK146.out)) : gb146 ≠ gb157)); have n6_ := Aside0.mk ((by rw [hg]; exact Nat.ne_of_gt (blk_lt (g := gb146) (o := .cells #[.int .i64 ((rd_T29 l0 x3_1).f0.f0), .int .i64 ((rd_T29 l0 x3_1).f0.f1), .bool ((rd_T29 l0 x3_1).f0.f2), .int .i64 ((rd_T29 l0 x3_1).f0.f3), .int .i64 ((rd_T29 l0 x3_1).f0.f4), .int .i64 ((rd_T29 l0 x3_1).f0.f5), .bool ((rd_T29 l0 x3_1).f0.f6), .int .i64 ((rd_T29 l0 x3_1).f0.f7), .int .i64 ((rd_T29 l0 x3_1).f0.f8), .bool ((rd_T29 l0 x3_1).f1), .int .i64 ((rd_T29 l0 x3_1).f2), .int .i64 ((rd_T29 l0 x3_1).f3.f0), .slice A145_12 ((rd_T29 l0 x3_1).f3.f1).length c145_12] 29 (0, 0)) (by (with_reducible repeat (first | refine blk_drewN ?_ _ | refine blk_drew ?_ | refine blk_alloc ?_ _)); exact BK146.out)) : gb157 ≠ gb146)); clear BK146; clear HB; have BK146 := n0_; have HB := n1_; have BK157 := n2_; have GW157 := n3_; have GE157 := n4_; have NB146_157 := n5_; have NB157_146 := n6_; clear n0_ n1_ n2_ n3_ n4_ n5_ n6_; clear hb hbox hg; have hnb13 := NB157_146.out; have hnc13 := NB146_157.out; have hcz14_0 : w12.cell? ⟨gb157, 0, none⟩ = some (.int .i64 0) := (blk_cell BK157.out 0).trans rfl; have hcz14_1 : w12.cell? ⟨gb157, 1, none⟩ = some (.int .i64 0) := (blk_cell BK157.out 1).trans rfl; have hcz14_2 : w12.cell? ⟨gb157, 2, none⟩ = some (.bool false) := (blk_cell BK157.out 2).trans rfl; have hcz14_3 : w12.cell? ⟨gb157, 3, none⟩ = some (.int .i64 0) := (blk_cell BK157.out 3).trans rfl; have hcz14_4 : w12.cell? ⟨gb157, 4, none⟩ = some (.int .i64 0) := (blk_cell BK157.out 4).trans rfl; have hcz14_5 : w12.cell? ⟨gb157, 5, none⟩ = some (.int .i64 0) := (blk_cell BK157.out 5).trans rfl; have hcz14_6 : w12.cell? ⟨gb157, 6, none⟩ = some (.bool false) := (blk_cell BK157.out 6).trans rfl; have hcz14_7 : w12.cell? ⟨gb157, 7, none⟩ = some (.int .i64 0) := (blk_cell BK157.out 7).trans rfl; have hcz14_8 : w12.cell? ⟨gb157, 8, none⟩ = some (.int .i64 0) := (blk_cell BK157.out 8).trans rfl; have hfz14_0 := blk_frozen BK157.out 0; have hfz14_1 := blk_frozen BK157.out 1; have hfz14_2 := blk_frozen BK157.out 2; have hfz14_3 := blk_frozen BK157.out 3; have hfz14_4 := blk_frozen BK157.out 4; have hfz14_5 := blk_frozen BK157.out 5; have hfz14_6 := blk_frozen BK157.out 6; have hfz14_7 := blk_frozen BK157.out 7; have hfz14_8 := blk_frozen BK157.out 8))
                (try simp only [Act.put, List.setIfInBounds_toArray, List.set_cons_zero, List.set_cons_succ])
                go_cut [46] (fun v46 wc => ∃ (kq : Nat) (x46_7 : Bool), v46 = .bool x46_7 ∧ Aside0 (gimballaw9_DrvSets.j2 kq l0 x3_1 t156 x46_7 ((rd_T29 l0 x3_1).f0.f0) ((rd_T29 l0 x3_1).f0.f1) ((rd_T29 l0 x3_1).f0.f2) ((rd_T29 l0 x3_1).f0.f3) ((rd_T29 l0 x3_1).f0.f4) ((rd_T29 l0 x3_1).f0.f5) ((rd_T29 l0 x3_1).f0.f6) ((rd_T29 l0 x3_1).f0.f7) ((rd_T29 l0 x3_1).f0.f8) ((rd_T29 l0 x3_1).f1) ((rd_T29 l0 x3_1).f2) ((rd_T29 l0 x3_1).f3.f0) ((rd_T29 l0 x3_1).f3.f1) t147 t148 t149 t150 t151 t152 t153 t154 t155 = some r) ∧ Aside0 (kq ≤ kj1) ∧ Aside0 (wc.heap[gb146]? = some (.cells #[.int .i64 ((rd_T29 l0 x3_1).f0.f0), .int .i64 ((rd_T29 l0 x3_1).f0.f1), .bool ((rd_T29 l0 x3_1).f0.f2), .int .i64 ((rd_T29 l0 x3_1).f0.f3), .int .i64 ((rd_T29 l0 x3_1).f0.f4), .int .i64 ((rd_T29 l0 x3_1).f0.f5), .bool ((rd_T29 l0 x3_1).f0.f6), .int .i64 ((rd_T29 l0 x3_1).f0.f7), .int .i64 ((rd_T29 l0 x3_1).f0.f8), .bool ((rd_T29 l0 x3_1).f1), .int .i64 ((rd_T29 l0 x3_1).f2), .int .i64 ((rd_T29 l0 x3_1).f3.f0), (.slice A145_12 ((rd_T29 l0 x3_1).f3.f1).length c145_12)] 29 (0, 0))) ∧ Aside0 (wc.heap[gb157]? = some (.cells #[.int .i64 t147, .int .i64 t148, .bool t149, .int .i64 t150, .int .i64 t151, .int .i64 t152, .bool t153, .int .i64 t154, .int .i64 t155] 24 (0, 0))) ∧ Aside0 (Below w.heap.size w wc))
                case first =>
                  have H := HC8.out
                  clear HC8
                  replace H := Option.bind_eq_some_iff.mp H
                  obtain ⟨t158, A150, H⟩ := H
                  replace H : (if t158 = true then (if ((rd_T29 l0 x3_1).f2) < 1 then (gimballaw9_DrvSets.j2 kj1 l0 x3_1 t156 true ((rd_T29 l0 x3_1).f0.f0) ((rd_T29 l0 x3_1).f0.f1) ((rd_T29 l0 x3_1).f0.f2) ((rd_T29 l0 x3_1).f0.f3) ((rd_T29 l0 x3_1).f0.f4) ((rd_T29 l0 x3_1).f0.f5) ((rd_T29 l0 x3_1).f0.f6) ((rd_T29 l0 x3_1).f0.f7) ((rd_T29 l0 x3_1).f0.f8) ((rd_T29 l0 x3_1).f1) ((rd_T29 l0 x3_1).f2) ((rd_T29 l0 x3_1).f3.f0) ((rd_T29 l0 x3_1).f3.f1) t147 t148 t149 t150 t151 t152 t153 t154 t155) else (gimballaw9_DrvSets.j2 kj1 l0 x3_1 t156 (decide (((rd_T29 l0 x3_1).f2) > 250)) ((rd_T29 l0 x3_1).f0.f0) ((rd_T29 l0 x3_1).f0.f1) ((rd_T29 l0 x3_1).f0.f2) ((rd_T29 l0 x3_1).f0.f3) ((rd_T29 l0 x3_1).f0.f4) ((rd_T29 l0 x3_1).f0.f5) ((rd_T29 l0 x3_1).f0.f6) ((rd_T29 l0 x3_1).f0.f7) ((rd_T29 l0 x3_1).f0.f8) ((rd_T29 l0 x3_1).f1) ((rd_T29 l0 x3_1).f2) ((rd_T29 l0 x3_1).f3.f0) ((rd_T29 l0 x3_1).f3.f1) t147 t148 t149 t150 t151 t152 t153 t154 t155)) else (gimballaw9_DrvSets.j2 kj1 l0 x3_1 t156 true ((rd_T29 l0 x3_1).f0.f0) ((rd_T29 l0 x3_1).f0.f1) ((rd_T29 l0 x3_1).f0.f2) ((rd_T29 l0 x3_1).f0.f3) ((rd_T29 l0 x3_1).f0.f4) ((rd_T29 l0 x3_1).f0.f5) ((rd_T29 l0 x3_1).f0.f6) ((rd_T29 l0 x3_1).f0.f7) ((rd_T29 l0 x3_1).f0.f8) ((rd_T29 l0 x3_1).f1) ((rd_T29 l0 x3_1).f2) ((rd_T29 l0 x3_1).f3.f0) ((rd_T29 l0 x3_1).f3.f1) t147 t148 t149 t150 t151 t152 t153 t154 t155)) = some r := H
                  have A15 := Aside0.mk A150
                  clear A150
                  by_cases c16 : t158 = true
                  · subst c16
                    have H1 : (if ((rd_T29 l0 x3_1).f2) < 1 then (gimballaw9_DrvSets.j2 kj1 l0 x3_1 t156 true ((rd_T29 l0 x3_1).f0.f0) ((rd_T29 l0 x3_1).f0.f1) ((rd_T29 l0 x3_1).f0.f2) ((rd_T29 l0 x3_1).f0.f3) ((rd_T29 l0 x3_1).f0.f4) ((rd_T29 l0 x3_1).f0.f5) ((rd_T29 l0 x3_1).f0.f6) ((rd_T29 l0 x3_1).f0.f7) ((rd_T29 l0 x3_1).f0.f8) ((rd_T29 l0 x3_1).f1) ((rd_T29 l0 x3_1).f2) ((rd_T29 l0 x3_1).f3.f0) ((rd_T29 l0 x3_1).f3.f1) t147 t148 t149 t150 t151 t152 t153 t154 t155) else (gimballaw9_DrvSets.j2 kj1 l0 x3_1 t156 (decide (((rd_T29 l0 x3_1).f2) > 250)) ((rd_T29 l0 x3_1).f0.f0) ((rd_T29 l0 x3_1).f0.f1) ((rd_T29 l0 x3_1).f0.f2) ((rd_T29 l0 x3_1).f0.f3) ((rd_T29 l0 x3_1).f0.f4) ((rd_T29 l0 x3_1).f0.f5) ((rd_T29 l0 x3_1).f0.f6) ((rd_T29 l0 x3_1).f0.f7) ((rd_T29 l0 x3_1).f0.f8) ((rd_T29 l0 x3_1).f1) ((rd_T29 l0 x3_1).f2) ((rd_T29 l0 x3_1).f3.f0) ((rd_T29 l0 x3_1).f3.f1) t147 t148 t149 t150 t151 t152 t153 t154 t155)) = some r := by rw [if_pos rfl] at H; exact H
                    clear H
                    have H := H1
                    clear H1
                    by_cases c17 : ((rd_T29 l0 x3_1).f2) < 1
                    · rw [if_pos c17] at H
                      have c17b0 : decide (((rd_T29 l0 x3_1).f2) < 1) = true := decide_eq_true c17
                      clear c17
                      (first | rw [c17b0] | (simp only [i64_w, i32_w]; rw [c17b0]) | skip)
                      have H' := Aside0.mk H
                      clear H
                      have hnb18 := NB146_157.out
                      have hnc18 := NB157_146.out
                      have hcz19_0 : w12.cell? ⟨gb146, 0, none⟩ = some (.int .i64 ((rd_T29 l0 x3_1).f0.f0)) := (blk_cell BK146.out 0).trans rfl
                      have hcz19_1 : w12.cell? ⟨gb146, 1, none⟩ = some (.int .i64 ((rd_T29 l0 x3_1).f0.f1)) := (blk_cell BK146.out 1).trans rfl
                      have hcz19_2 : w12.cell? ⟨gb146, 2, none⟩ = some (.bool ((rd_T29 l0 x3_1).f0.f2)) := (blk_cell BK146.out 2).trans rfl
                      have hcz19_3 : w12.cell? ⟨gb146, 3, none⟩ = some (.int .i64 ((rd_T29 l0 x3_1).f0.f3)) := (blk_cell BK146.out 3).trans rfl
                      have hcz19_4 : w12.cell? ⟨gb146, 4, none⟩ = some (.int .i64 ((rd_T29 l0 x3_1).f0.f4)) := (blk_cell BK146.out 4).trans rfl
                      have hcz19_5 : w12.cell? ⟨gb146, 5, none⟩ = some (.int .i64 ((rd_T29 l0 x3_1).f0.f5)) := (blk_cell BK146.out 5).trans rfl
                      have hcz19_6 : w12.cell? ⟨gb146, 6, none⟩ = some (.bool ((rd_T29 l0 x3_1).f0.f6)) := (blk_cell BK146.out 6).trans rfl
                      have hcz19_7 : w12.cell? ⟨gb146, 7, none⟩ = some (.int .i64 ((rd_T29 l0 x3_1).f0.f7)) := (blk_cell BK146.out 7).trans rfl
                      have hcz19_8 : w12.cell? ⟨gb146, 8, none⟩ = some (.int .i64 ((rd_T29 l0 x3_1).f0.f8)) := (blk_cell BK146.out 8).trans rfl
                      have hcz19_9 : w12.cell? ⟨gb146, 9, none⟩ = some (.bool ((rd_T29 l0 x3_1).f1)) := (blk_cell BK146.out 9).trans rfl
                      have hcz19_10 : w12.cell? ⟨gb146, 10, none⟩ = some (.int .i64 ((rd_T29 l0 x3_1).f2)) := (blk_cell BK146.out 10).trans rfl
                      have hcz19_11 : w12.cell? ⟨gb146, 11, none⟩ = some (.int .i64 ((rd_T29 l0 x3_1).f3.f0)) := (blk_cell BK146.out 11).trans rfl
                      have hcz19_12 : w12.cell? ⟨gb146, 12, none⟩ = some (.slice A145_12 ((rd_T29 l0 x3_1).f3.f1).length c145_12) := (blk_cell BK146.out 12).trans rfl
                      have hfz19_0 := blk_frozen BK146.out 0
                      have hfz19_1 := blk_frozen BK146.out 1
                      have hfz19_2 := blk_frozen BK146.out 2
                      have hfz19_3 := blk_frozen BK146.out 3
                      have hfz19_4 := blk_frozen BK146.out 4
                      have hfz19_5 := blk_frozen BK146.out 5
                      have hfz19_6 := blk_frozen BK146.out 6
                      have hfz19_7 := blk_frozen BK146.out 7
                      have hfz19_8 := blk_frozen BK146.out 8
                      have hfz19_9 := blk_frozen BK146.out 9
                      have hfz19_10 := blk_frozen BK146.out 10
                      have hfz19_11 := blk_frozen BK146.out 11
                      have hfz19_12 := blk_frozen BK146.out 12
                      go_wp2_with (first | ((with_reducible refine gate_callee (f := 10) rfl ?_); refine goesL_ (some 35) rfl rfl Try.func10 (by kernel_rfl) rfl #[.agg #[.int .i64 ((rd_T29 l0 x3_1).f0.f0), .int .i64 ((rd_T29 l0 x3_1).f0.f1), .bool ((rd_T29 l0 x3_1).f0.f2), .int .i64 ((rd_T29 l0 x3_1).f0.f3), .int .i64 ((rd_T29 l0 x3_1).f0.f4), .int .i64 ((rd_T29 l0 x3_1).f0.f5), .bool ((rd_T29 l0 x3_1).f0.f6), .int .i64 ((rd_T29 l0 x3_1).f0.f7), .int .i64 ((rd_T29 l0 x3_1).f0.f8)]] rfl (by (try simp only [List.map_toArray, List.map_cons, List.map_nil]); first | done | rfl | (simp only [List.length_drop, List.length_take]; rfl)) ?_; (with_reducible refine (gimbalref9_May.calls kj1 ((rd_T29 l0 x3_1).f0.f0) ((rd_T29 l0 x3_1).f0.f1) ((rd_T29 l0 x3_1).f0.f2) ((rd_T29 l0 x3_1).f0.f3) ((rd_T29 l0 x3_1).f0.f4) ((rd_T29 l0 x3_1).f0.f5) ((rd_T29 l0 x3_1).f0.f6) ((rd_T29 l0 x3_1).f0.f7) ((rd_T29 l0 x3_1).f0.f8) true _ A15.out).mono ?_); rintro e w20 ⟨rfl, hb⟩; refine ⟨_, rfl, ?_⟩; have n0_ := Aside0.mk (blk_below (g := gb146) (o := .cells #[.int .i64 ((rd_T29 l0 x3_1).f0.f0), .int .i64 ((rd_T29 l0 x3_1).f0.f1), .bool ((rd_T29 l0 x3_1).f0.f2), .int .i64 ((rd_T29 l0 x3_1).f0.f3), .int .i64 ((rd_T29 l0 x3_1).f0.f4), .int .i64 ((rd_T29 l0 x3_1).f0.f5), .bool ((rd_T29 l0 x3_1).f0.f6), .int .i64 ((rd_T29 l0 x3_1).f0.f7), .int .i64 ((rd_T29 l0 x3_1).f0.f8), .bool ((rd_T29 l0 x3_1).f1), .int .i64 ((rd_T29 l0 x3_1).f2), .int .i64 ((rd_T29 l0 x3_1).f3.f0), .slice A145_12 ((rd_T29 l0 x3_1).f3.f1).length c145_12] 29 (0, 0)) (by (with_reducible repeat (first | refine blk_drewN ?_ _ | refine blk_drew ?_ | refine blk_alloc ?_ _)); refine blk_far ?_ NB146_157.out _; (with_reducible repeat (first | refine blk_drewN ?_ _ | refine blk_drew ?_ | refine blk_alloc ?_ _)); refine blk_far ?_ NB146_157.out _; (with_reducible repeat (first | refine blk_drewN ?_ _ | refine blk_drew ?_ | refine blk_alloc ?_ _)); refine blk_far ?_ NB146_157.out _; (with_reducible repeat (first | refine blk_drewN ?_ _ | refine blk_drew ?_ | refine blk_alloc ?_ _)); refine blk_far ?_ NB146_157.out _; (with_reducible repeat (first | refine blk_drewN ?_ _ | refine blk_drew ?_ | refine blk_alloc ?_ _)); refine blk_far ?_ NB146_157.out _; (with_reducible repeat (first | refine blk_drewN ?_ _ | refine blk_drew ?_ | refine blk_alloc ?_ _)); refine blk_far ?_ NB146_157.out _; (with_reducible repeat (first | refine blk_drewN ?_ _ | refine blk_drew ?_ | refine blk_alloc ?_ _)); refine blk_far ?_ NB146_157.out _; (with_reducible repeat (first | refine blk_drewN ?_ _ | refine blk_drew ?_ | refine blk_alloc ?_ _)); refine blk_far ?_ NB146_157.out _; (with_reducible repeat (first | refine blk_drewN ?_ _ | refine blk_drew ?_ | refine blk_alloc ?_ _)); refine blk_far ?_ NB146_157.out _; (with_reducible repeat (first | refine blk_drewN ?_ _ | refine blk_drew ?_ | refine blk_alloc ?_ _)); exact BK146.out) hb); have n1_ := Aside0.mk (blk_below (g := gb157) (o := .cells #[.int .i64 t147, .int .i64 t148, .bool t149, .int .i64 t150, .int .i64 t151, .int .i64 t152, .bool t153, .int .i64 t154, .int .i64 t155] 24 (0, 0)) (by (with_reducible repeat (first | refine blk_drewN ?_ _ | refine blk_drew ?_ | refine blk_alloc ?_ _)); refine blk_put (cs := #[.int .i64 t147, .int .i64 t148, .bool t149, .int .i64 t150, .int .i64 t151, .int .i64 t152, .bool t153, .int .i64 t154, .int .i64 0]) ?_ 8 _ rfl; (with_reducible repeat (first | refine blk_drewN ?_ _ | refine blk_drew ?_ | refine blk_alloc ?_ _)); refine blk_put (cs := #[.int .i64 t147, .int .i64 t148, .bool t149, .int .i64 t150, .int .i64 t151, .int .i64 t152, .bool t153, .int .i64 0, .int .i64 0]) ?_ 7 _ rfl; (with_reducible repeat (first | refine blk_drewN ?_ _ | refine blk_drew ?_ | refine blk_alloc ?_ _)); refine blk_put (cs := #[.int .i64 t147, .int .i64 t148, .bool t149, .int .i64 t150, .int .i64 t151, .int .i64 t152, .bool false, .int .i64 0, .int .i64 0]) ?_ 6 _ rfl; (with_reducible repeat (first | refine blk_drewN ?_ _ | refine blk_drew ?_ | refine blk_alloc ?_ _)); refine blk_put (cs := #[.int .i64 t147, .int .i64 t148, .bool t149, .int .i64 t150, .int .i64 t151, .int .i64 0, .bool false, .int .i64 0, .int .i64 0]) ?_ 5 _ rfl; (with_reducible repeat (first | refine blk_drewN ?_ _ | refine blk_drew ?_ | refine blk_alloc ?_ _)); refine blk_put (cs := #[.int .i64 t147, .int .i64 t148, .bool t149, .int .i64 t150, .int .i64 0, .int .i64 0, .bool false, .int .i64 0, .int .i64 0]) ?_ 4 _ rfl; (with_reducible repeat (first | refine blk_drewN ?_ _ | refine blk_drew ?_ | refine blk_alloc ?_ _)); refine blk_put (cs := #[.int .i64 t147, .int .i64 t148, .bool t149, .int .i64 0, .int .i64 0, .int .i64 0, .bool false, .int .i64 0, .int .i64 0]) ?_ 3 _ rfl; (with_reducible repeat (first | refine blk_drewN ?_ _ | refine blk_drew ?_ | refine blk_alloc ?_ _)); refine blk_put (cs := #[.int .i64 t147, .int .i64 t148, .bool false, .int .i64 0, .int .i64 0, .int .i64 0, .bool false, .int .i64 0, .int .i64 0]) ?_ 2 _ rfl; (with_reducible repeat (first | refine blk_drewN ?_ _ | refine blk_drew ?_ | refine blk_alloc ?_ _)); refine blk_put (cs := #[.int .i64 t147, .int .i64 0, .bool false, .int .i64 0, .int .i64 0, .int .i64 0, .bool false, .int .i64 0, .int .i64 0]) ?_ 1 _ rfl; (with_reducible repeat (first | refine blk_drewN ?_ _ | refine blk_drew ?_ | refine blk_alloc ?_ _)); refine blk_put (cs := #[.int .i64 0, .int .i64 0, .bool false, .int .i64 0, .int .i64 0, .int .i64 0, .bool false, .int .i64 0, .int .i64 0]) ?_ 0 _ rfl; (with_reducible repeat (first | refine blk_drewN ?_ _ | refine blk_drew ?_ | refine blk_alloc ?_ _)); exact BK157.out) hb); have n2_ := Aside0.mk (below_step (by repeat (first | (with_reducible first | exact HB.out | apply below_alloc | apply pw_below_drewN | apply below_drew1 | refine below_set ?_ GE146.out | refine below_set ?_ GE157.out) | exact HB.out)) hb); clear BK146; clear BK157; clear HB; have BK146 := n0_; have BK157 := n1_; have HB := n2_; clear n0_ n1_ n2_; (try clear hb); (try clear hb2); (try clear hk); (try clear hi); have hcz21_0 : w20.cell? ⟨gb146, 0, none⟩ = some (.int .i64 ((rd_T29 l0 x3_1).f0.f0)) := (blk_cell BK146.out 0).trans rfl; have hcz21_1 : w20.cell? ⟨gb146, 1, none⟩ = some (.int .i64 ((rd_T29 l0 x3_1).f0.f1)) := (blk_cell BK146.out 1).trans rfl; have hcz21_2 : w20.cell? ⟨gb146, 2, none⟩ = some (.bool ((rd_T29 l0 x3_1).f0.f2)) := (blk_cell BK146.out 2).trans rfl; have hcz21_3 : w20.cell? ⟨gb146, 3, none⟩ = some (.int .i64 ((rd_T29 l0 x3_1).f0.f3)) := (blk_cell BK146.out 3).trans rfl; have hcz21_4 : w20.cell? ⟨gb146, 4, none⟩ = some (.int .i64 ((rd_T29 l0 x3_1).f0.f4)) := (blk_cell BK146.out 4).trans rfl; have hcz21_5 : w20.cell? ⟨gb146, 5, none⟩ = some (.int .i64 ((rd_T29 l0 x3_1).f0.f5)) := (blk_cell BK146.out 5).trans rfl; have hcz21_6 : w20.cell? ⟨gb146, 6, none⟩ = some (.bool ((rd_T29 l0 x3_1).f0.f6)) := (blk_cell BK146.out 6).trans rfl; have hcz21_7 : w20.cell? ⟨gb146, 7, none⟩ = some (.int .i64 ((rd_T29 l0 x3_1).f0.f7)) := (blk_cell BK146.out 7).trans rfl; have hcz21_8 : w20.cell? ⟨gb146, 8, none⟩ = some (.int .i64 ((rd_T29 l0 x3_1).f0.f8)) := (blk_cell BK146.out 8).trans rfl; have hcz21_9 : w20.cell? ⟨gb146, 9, none⟩ = some (.bool ((rd_T29 l0 x3_1).f1)) := (blk_cell BK146.out 9).trans rfl; have hcz21_10 : w20.cell? ⟨gb146, 10, none⟩ = some (.int .i64 ((rd_T29 l0 x3_1).f2)) := (blk_cell BK146.out 10).trans rfl; have hcz21_11 : w20.cell? ⟨gb146, 11, none⟩ = some (.int .i64 ((rd_T29 l0 x3_1).f3.f0)) := (blk_cell BK146.out 11).trans rfl; have hcz21_12 : w20.cell? ⟨gb146, 12, none⟩ = some (.slice A145_12 ((rd_T29 l0 x3_1).f3.f1).length c145_12) := (blk_cell BK146.out 12).trans rfl; have hfz21_0 := blk_frozen BK146.out 0; have hfz21_1 := blk_frozen BK146.out 1; have hfz21_2 := blk_frozen BK146.out 2; have hfz21_3 := blk_frozen BK146.out 3; have hfz21_4 := blk_frozen BK146.out 4; have hfz21_5 := blk_frozen BK146.out 5; have hfz21_6 := blk_frozen BK146.out 6; have hfz21_7 := blk_frozen BK146.out 7; have hfz21_8 := blk_frozen BK146.out 8; have hfz21_9 := blk_frozen BK146.out 9; have hfz21_10 := blk_frozen BK146.out 10; have hfz21_11 := blk_frozen BK146.out 11; have hfz21_12 := blk_frozen BK146.out 12))
                      go_meet
                      case rel => exact ⟨_, (true), (by first | rfl | (simp; done) | (simp [*]; done)), H', ⟨by have := HK1.out; have := HJ1.out; first | omega | exact Nat.le_refl _⟩, ⟨by (with_reducible repeat (first | refine blk_drewN ?_ _ | refine blk_drew ?_ | refine blk_alloc ?_ _)); exact BK146.out⟩, ⟨by (with_reducible repeat (first | refine blk_drewN ?_ _ | refine blk_drew ?_ | refine blk_alloc ?_ _)); exact BK157.out⟩, ⟨by repeat (first | (with_reducible first | exact HB.out | apply below_alloc | apply pw_below_drewN | apply below_drew1 | refine below_set ?_ GE146.out | refine below_set ?_ GE157.out) | exact HB.out)⟩⟩
                    · rw [if_neg c17] at H
                      have c17b0 : decide (((rd_T29 l0 x3_1).f2) < 1) = false := decide_eq_false c17
                      clear c17
                      (first | rw [c17b0] | (simp only [i64_w, i32_w]; rw [c17b0]) | skip)
                      have H' := Aside0.mk H
                      clear H
                      have hnb22 := NB146_157.out
                      have hnc22 := NB157_146.out
                      have hcz23_0 : w12.cell? ⟨gb146, 0, none⟩ = some (.int .i64 ((rd_T29 l0 x3_1).f0.f0)) := (blk_cell BK146.out 0).trans rfl
                      have hcz23_1 : w12.cell? ⟨gb146, 1, none⟩ = some (.int .i64 ((rd_T29 l0 x3_1).f0.f1)) := (blk_cell BK146.out 1).trans rfl
                      have hcz23_2 : w12.cell? ⟨gb146, 2, none⟩ = some (.bool ((rd_T29 l0 x3_1).f0.f2)) := (blk_cell BK146.out 2).trans rfl
                      have hcz23_3 : w12.cell? ⟨gb146, 3, none⟩ = some (.int .i64 ((rd_T29 l0 x3_1).f0.f3)) := (blk_cell BK146.out 3).trans rfl
                      have hcz23_4 : w12.cell? ⟨gb146, 4, none⟩ = some (.int .i64 ((rd_T29 l0 x3_1).f0.f4)) := (blk_cell BK146.out 4).trans rfl
                      have hcz23_5 : w12.cell? ⟨gb146, 5, none⟩ = some (.int .i64 ((rd_T29 l0 x3_1).f0.f5)) := (blk_cell BK146.out 5).trans rfl
                      have hcz23_6 : w12.cell? ⟨gb146, 6, none⟩ = some (.bool ((rd_T29 l0 x3_1).f0.f6)) := (blk_cell BK146.out 6).trans rfl
                      have hcz23_7 : w12.cell? ⟨gb146, 7, none⟩ = some (.int .i64 ((rd_T29 l0 x3_1).f0.f7)) := (blk_cell BK146.out 7).trans rfl
                      have hcz23_8 : w12.cell? ⟨gb146, 8, none⟩ = some (.int .i64 ((rd_T29 l0 x3_1).f0.f8)) := (blk_cell BK146.out 8).trans rfl
                      have hcz23_9 : w12.cell? ⟨gb146, 9, none⟩ = some (.bool ((rd_T29 l0 x3_1).f1)) := (blk_cell BK146.out 9).trans rfl
                      have hcz23_10 : w12.cell? ⟨gb146, 10, none⟩ = some (.int .i64 ((rd_T29 l0 x3_1).f2)) := (blk_cell BK146.out 10).trans rfl
                      have hcz23_11 : w12.cell? ⟨gb146, 11, none⟩ = some (.int .i64 ((rd_T29 l0 x3_1).f3.f0)) := (blk_cell BK146.out 11).trans rfl
                      have hcz23_12 : w12.cell? ⟨gb146, 12, none⟩ = some (.slice A145_12 ((rd_T29 l0 x3_1).f3.f1).length c145_12) := (blk_cell BK146.out 12).trans rfl
                      have hfz23_0 := blk_frozen BK146.out 0
                      have hfz23_1 := blk_frozen BK146.out 1
                      have hfz23_2 := blk_frozen BK146.out 2
                      have hfz23_3 := blk_frozen BK146.out 3
                      have hfz23_4 := blk_frozen BK146.out 4
                      have hfz23_5 := blk_frozen BK146.out 5
                      have hfz23_6 := blk_frozen BK146.out 6
                      have hfz23_7 := blk_frozen BK146.out 7
                      have hfz23_8 := blk_frozen BK146.out 8
                      have hfz23_9 := blk_frozen BK146.out 9
                      have hfz23_10 := blk_frozen BK146.out 10
                      have hfz23_11 := blk_frozen BK146.out 11
                      have hfz23_12 := blk_frozen BK146.out 12
                      go_wp2_with (first | ((with_reducible refine gate_callee (f := 10) rfl ?_); refine goesL_ (some 35) rfl rfl Try.func10 (by kernel_rfl) rfl #[.agg #[.int .i64 ((rd_T29 l0 x3_1).f0.f0), .int .i64 ((rd_T29 l0 x3_1).f0.f1), .bool ((rd_T29 l0 x3_1).f0.f2), .int .i64 ((rd_T29 l0 x3_1).f0.f3), .int .i64 ((rd_T29 l0 x3_1).f0.f4), .int .i64 ((rd_T29 l0 x3_1).f0.f5), .bool ((rd_T29 l0 x3_1).f0.f6), .int .i64 ((rd_T29 l0 x3_1).f0.f7), .int .i64 ((rd_T29 l0 x3_1).f0.f8)]] rfl (by (try simp only [List.map_toArray, List.map_cons, List.map_nil]); first | done | rfl | (simp only [List.length_drop, List.length_take]; rfl)) ?_; (with_reducible refine (gimbalref9_May.calls kj1 ((rd_T29 l0 x3_1).f0.f0) ((rd_T29 l0 x3_1).f0.f1) ((rd_T29 l0 x3_1).f0.f2) ((rd_T29 l0 x3_1).f0.f3) ((rd_T29 l0 x3_1).f0.f4) ((rd_T29 l0 x3_1).f0.f5) ((rd_T29 l0 x3_1).f0.f6) ((rd_T29 l0 x3_1).f0.f7) ((rd_T29 l0 x3_1).f0.f8) true _ A15.out).mono ?_); rintro e w24 ⟨rfl, hb⟩; refine ⟨_, rfl, ?_⟩; have n0_ := Aside0.mk (blk_below (g := gb146) (o := .cells #[.int .i64 ((rd_T29 l0 x3_1).f0.f0), .int .i64 ((rd_T29 l0 x3_1).f0.f1), .bool ((rd_T29 l0 x3_1).f0.f2), .int .i64 ((rd_T29 l0 x3_1).f0.f3), .int .i64 ((rd_T29 l0 x3_1).f0.f4), .int .i64 ((rd_T29 l0 x3_1).f0.f5), .bool ((rd_T29 l0 x3_1).f0.f6), .int .i64 ((rd_T29 l0 x3_1).f0.f7), .int .i64 ((rd_T29 l0 x3_1).f0.f8), .bool ((rd_T29 l0 x3_1).f1), .int .i64 ((rd_T29 l0 x3_1).f2), .int .i64 ((rd_T29 l0 x3_1).f3.f0), .slice A145_12 ((rd_T29 l0 x3_1).f3.f1).length c145_12] 29 (0, 0)) (by (with_reducible repeat (first | refine blk_drewN ?_ _ | refine blk_drew ?_ | refine blk_alloc ?_ _)); refine blk_far ?_ NB146_157.out _; (with_reducible repeat (first | refine blk_drewN ?_ _ | refine blk_drew ?_ | refine blk_alloc ?_ _)); refine blk_far ?_ NB146_157.out _; (with_reducible repeat (first | refine blk_drewN ?_ _ | refine blk_drew ?_ | refine blk_alloc ?_ _)); refine blk_far ?_ NB146_157.out _; (with_reducible repeat (first | refine blk_drewN ?_ _ | refine blk_drew ?_ | refine blk_alloc ?_ _)); refine blk_far ?_ NB146_157.out _; (with_reducible repeat (first | refine blk_drewN ?_ _ | refine blk_drew ?_ | refine blk_alloc ?_ _)); refine blk_far ?_ NB146_157.out _; (with_reducible repeat (first | refine blk_drewN ?_ _ | refine blk_drew ?_ | refine blk_alloc ?_ _)); refine blk_far ?_ NB146_157.out _; (with_reducible repeat (first | refine blk_drewN ?_ _ | refine blk_drew ?_ | refine blk_alloc ?_ _)); refine blk_far ?_ NB146_157.out _; (with_reducible repeat (first | refine blk_drewN ?_ _ | refine blk_drew ?_ | refine blk_alloc ?_ _)); refine blk_far ?_ NB146_157.out _; (with_reducible repeat (first | refine blk_drewN ?_ _ | refine blk_drew ?_ | refine blk_alloc ?_ _)); refine blk_far ?_ NB146_157.out _; (with_reducible repeat (first | refine blk_drewN ?_ _ | refine blk_drew ?_ | refine blk_alloc ?_ _)); exact BK146.out) hb); have n1_ := Aside0.mk (blk_below (g := gb157) (o := .cells #[.int .i64 t147, .int .i64 t148, .bool t149, .int .i64 t150, .int .i64 t151, .int .i64 t152, .bool t153, .int .i64 t154, .int .i64 t155] 24 (0, 0)) (by (with_reducible repeat (first | refine blk_drewN ?_ _ | refine blk_drew ?_ | refine blk_alloc ?_ _)); refine blk_put (cs := #[.int .i64 t147, .int .i64 t148, .bool t149, .int .i64 t150, .int .i64 t151, .int .i64 t152, .bool t153, .int .i64 t154, .int .i64 0]) ?_ 8 _ rfl; (with_reducible repeat (first | refine blk_drewN ?_ _ | refine blk_drew ?_ | refine blk_alloc ?_ _)); refine blk_put (cs := #[.int .i64 t147, .int .i64 t148, .bool t149, .int .i64 t150, .int .i64 t151, .int .i64 t152, .bool t153, .int .i64 0, .int .i64 0]) ?_ 7 _ rfl; (with_reducible repeat (first | refine blk_drewN ?_ _ | refine blk_drew ?_ | refine blk_alloc ?_ _)); refine blk_put (cs := #[.int .i64 t147, .int .i64 t148, .bool t149, .int .i64 t150, .int .i64 t151, .int .i64 t152, .bool false, .int .i64 0, .int .i64 0]) ?_ 6 _ rfl; (with_reducible repeat (first | refine blk_drewN ?_ _ | refine blk_drew ?_ | refine blk_alloc ?_ _)); refine blk_put (cs := #[.int .i64 t147, .int .i64 t148, .bool t149, .int .i64 t150, .int .i64 t151, .int .i64 0, .bool false, .int .i64 0, .int .i64 0]) ?_ 5 _ rfl; (with_reducible repeat (first | refine blk_drewN ?_ _ | refine blk_drew ?_ | refine blk_alloc ?_ _)); refine blk_put (cs := #[.int .i64 t147, .int .i64 t148, .bool t149, .int .i64 t150, .int .i64 0, .int .i64 0, .bool false, .int .i64 0, .int .i64 0]) ?_ 4 _ rfl; (with_reducible repeat (first | refine blk_drewN ?_ _ | refine blk_drew ?_ | refine blk_alloc ?_ _)); refine blk_put (cs := #[.int .i64 t147, .int .i64 t148, .bool t149, .int .i64 0, .int .i64 0, .int .i64 0, .bool false, .int .i64 0, .int .i64 0]) ?_ 3 _ rfl; (with_reducible repeat (first | refine blk_drewN ?_ _ | refine blk_drew ?_ | refine blk_alloc ?_ _)); refine blk_put (cs := #[.int .i64 t147, .int .i64 t148, .bool false, .int .i64 0, .int .i64 0, .int .i64 0, .bool false, .int .i64 0, .int .i64 0]) ?_ 2 _ rfl; (with_reducible repeat (first | refine blk_drewN ?_ _ | refine blk_drew ?_ | refine blk_alloc ?_ _)); refine blk_put (cs := #[.int .i64 t147, .int .i64 0, .bool false, .int .i64 0, .int .i64 0, .int .i64 0, .bool false, .int .i64 0, .int .i64 0]) ?_ 1 _ rfl; (with_reducible repeat (first | refine blk_drewN ?_ _ | refine blk_drew ?_ | refine blk_alloc ?_ _)); refine blk_put (cs := #[.int .i64 0, .int .i64 0, .bool false, .int .i64 0, .int .i64 0, .int .i64 0, .bool false, .int .i64 0, .int .i64 0]) ?_ 0 _ rfl; (with_reducible repeat (first | refine blk_drewN ?_ _ | refine blk_drew ?_ | refine blk_alloc ?_ _)); exact BK157.out) hb); have n2_ := Aside0.mk (below_step (by repeat (first | (with_reducible first | exact HB.out | apply below_alloc | apply pw_below_drewN | apply below_drew1 | refine below_set ?_ GE146.out | refine below_set ?_ GE157.out) | exact HB.out)) hb); clear BK146; clear BK157; clear HB; have BK146 := n0_; have BK157 := n1_; have HB := n2_; clear n0_ n1_ n2_; (try clear hb); (try clear hb2); (try clear hk); (try clear hi); have hcz25_0 : w24.cell? ⟨gb146, 0, none⟩ = some (.int .i64 ((rd_T29 l0 x3_1).f0.f0)) := (blk_cell BK146.out 0).trans rfl; have hcz25_1 : w24.cell? ⟨gb146, 1, none⟩ = some (.int .i64 ((rd_T29 l0 x3_1).f0.f1)) := (blk_cell BK146.out 1).trans rfl; have hcz25_2 : w24.cell? ⟨gb146, 2, none⟩ = some (.bool ((rd_T29 l0 x3_1).f0.f2)) := (blk_cell BK146.out 2).trans rfl; have hcz25_3 : w24.cell? ⟨gb146, 3, none⟩ = some (.int .i64 ((rd_T29 l0 x3_1).f0.f3)) := (blk_cell BK146.out 3).trans rfl; have hcz25_4 : w24.cell? ⟨gb146, 4, none⟩ = some (.int .i64 ((rd_T29 l0 x3_1).f0.f4)) := (blk_cell BK146.out 4).trans rfl; have hcz25_5 : w24.cell? ⟨gb146, 5, none⟩ = some (.int .i64 ((rd_T29 l0 x3_1).f0.f5)) := (blk_cell BK146.out 5).trans rfl; have hcz25_6 : w24.cell? ⟨gb146, 6, none⟩ = some (.bool ((rd_T29 l0 x3_1).f0.f6)) := (blk_cell BK146.out 6).trans rfl; have hcz25_7 : w24.cell? ⟨gb146, 7, none⟩ = some (.int .i64 ((rd_T29 l0 x3_1).f0.f7)) := (blk_cell BK146.out 7).trans rfl; have hcz25_8 : w24.cell? ⟨gb146, 8, none⟩ = some (.int .i64 ((rd_T29 l0 x3_1).f0.f8)) := (blk_cell BK146.out 8).trans rfl; have hcz25_9 : w24.cell? ⟨gb146, 9, none⟩ = some (.bool ((rd_T29 l0 x3_1).f1)) := (blk_cell BK146.out 9).trans rfl; have hcz25_10 : w24.cell? ⟨gb146, 10, none⟩ = some (.int .i64 ((rd_T29 l0 x3_1).f2)) := (blk_cell BK146.out 10).trans rfl; have hcz25_11 : w24.cell? ⟨gb146, 11, none⟩ = some (.int .i64 ((rd_T29 l0 x3_1).f3.f0)) := (blk_cell BK146.out 11).trans rfl; have hcz25_12 : w24.cell? ⟨gb146, 12, none⟩ = some (.slice A145_12 ((rd_T29 l0 x3_1).f3.f1).length c145_12) := (blk_cell BK146.out 12).trans rfl; have hfz25_0 := blk_frozen BK146.out 0; have hfz25_1 := blk_frozen BK146.out 1; have hfz25_2 := blk_frozen BK146.out 2; have hfz25_3 := blk_frozen BK146.out 3; have hfz25_4 := blk_frozen BK146.out 4; have hfz25_5 := blk_frozen BK146.out 5; have hfz25_6 := blk_frozen BK146.out 6; have hfz25_7 := blk_frozen BK146.out 7; have hfz25_8 := blk_frozen BK146.out 8; have hfz25_9 := blk_frozen BK146.out 9; have hfz25_10 := blk_frozen BK146.out 10; have hfz25_11 := blk_frozen BK146.out 11; have hfz25_12 := blk_frozen BK146.out 12))
                      go_meet
                      case rel => exact ⟨_, (decide (((rd_T29 l0 x3_1).f2) > 250)), (by first | rfl | (simp; done) | (simp [*]; done)), H', ⟨by have := HK1.out; have := HJ1.out; first | omega | exact Nat.le_refl _⟩, ⟨by (with_reducible repeat (first | refine blk_drewN ?_ _ | refine blk_drew ?_ | refine blk_alloc ?_ _)); exact BK146.out⟩, ⟨by (with_reducible repeat (first | refine blk_drewN ?_ _ | refine blk_drew ?_ | refine blk_alloc ?_ _)); exact BK157.out⟩, ⟨by repeat (first | (with_reducible first | exact HB.out | apply below_alloc | apply pw_below_drewN | apply below_drew1 | refine below_set ?_ GE146.out | refine below_set ?_ GE157.out) | exact HB.out)⟩⟩
                  · replace c16 := Bool.eq_false_iff.mpr c16
                    subst c16
                    have H1 : (gimballaw9_DrvSets.j2 kj1 l0 x3_1 t156 true ((rd_T29 l0 x3_1).f0.f0) ((rd_T29 l0 x3_1).f0.f1) ((rd_T29 l0 x3_1).f0.f2) ((rd_T29 l0 x3_1).f0.f3) ((rd_T29 l0 x3_1).f0.f4) ((rd_T29 l0 x3_1).f0.f5) ((rd_T29 l0 x3_1).f0.f6) ((rd_T29 l0 x3_1).f0.f7) ((rd_T29 l0 x3_1).f0.f8) ((rd_T29 l0 x3_1).f1) ((rd_T29 l0 x3_1).f2) ((rd_T29 l0 x3_1).f3.f0) ((rd_T29 l0 x3_1).f3.f1) t147 t148 t149 t150 t151 t152 t153 t154 t155) = some r := by rw [if_neg (show ¬ (false = true) by decide)] at H; exact H
                    clear H
                    have H := H1
                    clear H1
                    have H' := Aside0.mk H
                    clear H
                    have hnb26 := NB146_157.out
                    have hnc26 := NB157_146.out
                    have hcz27_0 : w12.cell? ⟨gb146, 0, none⟩ = some (.int .i64 ((rd_T29 l0 x3_1).f0.f0)) := (blk_cell BK146.out 0).trans rfl
                    have hcz27_1 : w12.cell? ⟨gb146, 1, none⟩ = some (.int .i64 ((rd_T29 l0 x3_1).f0.f1)) := (blk_cell BK146.out 1).trans rfl
                    have hcz27_2 : w12.cell? ⟨gb146, 2, none⟩ = some (.bool ((rd_T29 l0 x3_1).f0.f2)) := (blk_cell BK146.out 2).trans rfl
                    have hcz27_3 : w12.cell? ⟨gb146, 3, none⟩ = some (.int .i64 ((rd_T29 l0 x3_1).f0.f3)) := (blk_cell BK146.out 3).trans rfl
                    have hcz27_4 : w12.cell? ⟨gb146, 4, none⟩ = some (.int .i64 ((rd_T29 l0 x3_1).f0.f4)) := (blk_cell BK146.out 4).trans rfl
                    have hcz27_5 : w12.cell? ⟨gb146, 5, none⟩ = some (.int .i64 ((rd_T29 l0 x3_1).f0.f5)) := (blk_cell BK146.out 5).trans rfl
                    have hcz27_6 : w12.cell? ⟨gb146, 6, none⟩ = some (.bool ((rd_T29 l0 x3_1).f0.f6)) := (blk_cell BK146.out 6).trans rfl
                    have hcz27_7 : w12.cell? ⟨gb146, 7, none⟩ = some (.int .i64 ((rd_T29 l0 x3_1).f0.f7)) := (blk_cell BK146.out 7).trans rfl
                    have hcz27_8 : w12.cell? ⟨gb146, 8, none⟩ = some (.int .i64 ((rd_T29 l0 x3_1).f0.f8)) := (blk_cell BK146.out 8).trans rfl
                    have hcz27_9 : w12.cell? ⟨gb146, 9, none⟩ = some (.bool ((rd_T29 l0 x3_1).f1)) := (blk_cell BK146.out 9).trans rfl
                    have hcz27_10 : w12.cell? ⟨gb146, 10, none⟩ = some (.int .i64 ((rd_T29 l0 x3_1).f2)) := (blk_cell BK146.out 10).trans rfl
                    have hcz27_11 : w12.cell? ⟨gb146, 11, none⟩ = some (.int .i64 ((rd_T29 l0 x3_1).f3.f0)) := (blk_cell BK146.out 11).trans rfl
                    have hcz27_12 : w12.cell? ⟨gb146, 12, none⟩ = some (.slice A145_12 ((rd_T29 l0 x3_1).f3.f1).length c145_12) := (blk_cell BK146.out 12).trans rfl
                    have hfz27_0 := blk_frozen BK146.out 0
                    have hfz27_1 := blk_frozen BK146.out 1
                    have hfz27_2 := blk_frozen BK146.out 2
                    have hfz27_3 := blk_frozen BK146.out 3
                    have hfz27_4 := blk_frozen BK146.out 4
                    have hfz27_5 := blk_frozen BK146.out 5
                    have hfz27_6 := blk_frozen BK146.out 6
                    have hfz27_7 := blk_frozen BK146.out 7
                    have hfz27_8 := blk_frozen BK146.out 8
                    have hfz27_9 := blk_frozen BK146.out 9
                    have hfz27_10 := blk_frozen BK146.out 10
                    have hfz27_11 := blk_frozen BK146.out 11
                    have hfz27_12 := blk_frozen BK146.out 12
                    go_wp2_with (first | ((with_reducible refine gate_callee (f := 10) rfl ?_); refine goesL_ (some 35) rfl rfl Try.func10 (by kernel_rfl) rfl #[.agg #[.int .i64 ((rd_T29 l0 x3_1).f0.f0), .int .i64 ((rd_T29 l0 x3_1).f0.f1), .bool ((rd_T29 l0 x3_1).f0.f2), .int .i64 ((rd_T29 l0 x3_1).f0.f3), .int .i64 ((rd_T29 l0 x3_1).f0.f4), .int .i64 ((rd_T29 l0 x3_1).f0.f5), .bool ((rd_T29 l0 x3_1).f0.f6), .int .i64 ((rd_T29 l0 x3_1).f0.f7), .int .i64 ((rd_T29 l0 x3_1).f0.f8)]] rfl (by (try simp only [List.map_toArray, List.map_cons, List.map_nil]); first | done | rfl | (simp only [List.length_drop, List.length_take]; rfl)) ?_; (with_reducible refine (gimbalref9_May.calls kj1 ((rd_T29 l0 x3_1).f0.f0) ((rd_T29 l0 x3_1).f0.f1) ((rd_T29 l0 x3_1).f0.f2) ((rd_T29 l0 x3_1).f0.f3) ((rd_T29 l0 x3_1).f0.f4) ((rd_T29 l0 x3_1).f0.f5) ((rd_T29 l0 x3_1).f0.f6) ((rd_T29 l0 x3_1).f0.f7) ((rd_T29 l0 x3_1).f0.f8) false _ A15.out).mono ?_); rintro e w28 ⟨rfl, hb⟩; refine ⟨_, rfl, ?_⟩; have n0_ := Aside0.mk (blk_below (g := gb146) (o := .cells #[.int .i64 ((rd_T29 l0 x3_1).f0.f0), .int .i64 ((rd_T29 l0 x3_1).f0.f1), .bool ((rd_T29 l0 x3_1).f0.f2), .int .i64 ((rd_T29 l0 x3_1).f0.f3), .int .i64 ((rd_T29 l0 x3_1).f0.f4), .int .i64 ((rd_T29 l0 x3_1).f0.f5), .bool ((rd_T29 l0 x3_1).f0.f6), .int .i64 ((rd_T29 l0 x3_1).f0.f7), .int .i64 ((rd_T29 l0 x3_1).f0.f8), .bool ((rd_T29 l0 x3_1).f1), .int .i64 ((rd_T29 l0 x3_1).f2), .int .i64 ((rd_T29 l0 x3_1).f3.f0), .slice A145_12 ((rd_T29 l0 x3_1).f3.f1).length c145_12] 29 (0, 0)) (by (with_reducible repeat (first | refine blk_drewN ?_ _ | refine blk_drew ?_ | refine blk_alloc ?_ _)); refine blk_far ?_ NB146_157.out _; (with_reducible repeat (first | refine blk_drewN ?_ _ | refine blk_drew ?_ | refine blk_alloc ?_ _)); refine blk_far ?_ NB146_157.out _; (with_reducible repeat (first | refine blk_drewN ?_ _ | refine blk_drew ?_ | refine blk_alloc ?_ _)); refine blk_far ?_ NB146_157.out _; (with_reducible repeat (first | refine blk_drewN ?_ _ | refine blk_drew ?_ | refine blk_alloc ?_ _)); refine blk_far ?_ NB146_157.out _; (with_reducible repeat (first | refine blk_drewN ?_ _ | refine blk_drew ?_ | refine blk_alloc ?_ _)); refine blk_far ?_ NB146_157.out _; (with_reducible repeat (first | refine blk_drewN ?_ _ | refine blk_drew ?_ | refine blk_alloc ?_ _)); refine blk_far ?_ NB146_157.out _; (with_reducible repeat (first | refine blk_drewN ?_ _ | refine blk_drew ?_ | refine blk_alloc ?_ _)); refine blk_far ?_ NB146_157.out _; (with_reducible repeat (first | refine blk_drewN ?_ _ | refine blk_drew ?_ | refine blk_alloc ?_ _)); refine blk_far ?_ NB146_157.out _; (with_reducible repeat (first | refine blk_drewN ?_ _ | refine blk_drew ?_ | refine blk_alloc ?_ _)); refine blk_far ?_ NB146_157.out _; (with_reducible repeat (first | refine blk_drewN ?_ _ | refine blk_drew ?_ | refine blk_alloc ?_ _)); exact BK146.out) hb); have n1_ := Aside0.mk (blk_below (g := gb157) (o := .cells #[.int .i64 t147, .int .i64 t148, .bool t149, .int .i64 t150, .int .i64 t151, .int .i64 t152, .bool t153, .int .i64 t154, .int .i64 t155] 24 (0, 0)) (by (with_reducible repeat (first | refine blk_drewN ?_ _ | refine blk_drew ?_ | refine blk_alloc ?_ _)); refine blk_put (cs := #[.int .i64 t147, .int .i64 t148, .bool t149, .int .i64 t150, .int .i64 t151, .int .i64 t152, .bool t153, .int .i64 t154, .int .i64 0]) ?_ 8 _ rfl; (with_reducible repeat (first | refine blk_drewN ?_ _ | refine blk_drew ?_ | refine blk_alloc ?_ _)); refine blk_put (cs := #[.int .i64 t147, .int .i64 t148, .bool t149, .int .i64 t150, .int .i64 t151, .int .i64 t152, .bool t153, .int .i64 0, .int .i64 0]) ?_ 7 _ rfl; (with_reducible repeat (first | refine blk_drewN ?_ _ | refine blk_drew ?_ | refine blk_alloc ?_ _)); refine blk_put (cs := #[.int .i64 t147, .int .i64 t148, .bool t149, .int .i64 t150, .int .i64 t151, .int .i64 t152, .bool false, .int .i64 0, .int .i64 0]) ?_ 6 _ rfl; (with_reducible repeat (first | refine blk_drewN ?_ _ | refine blk_drew ?_ | refine blk_alloc ?_ _)); refine blk_put (cs := #[.int .i64 t147, .int .i64 t148, .bool t149, .int .i64 t150, .int .i64 t151, .int .i64 0, .bool false, .int .i64 0, .int .i64 0]) ?_ 5 _ rfl; (with_reducible repeat (first | refine blk_drewN ?_ _ | refine blk_drew ?_ | refine blk_alloc ?_ _)); refine blk_put (cs := #[.int .i64 t147, .int .i64 t148, .bool t149, .int .i64 t150, .int .i64 0, .int .i64 0, .bool false, .int .i64 0, .int .i64 0]) ?_ 4 _ rfl; (with_reducible repeat (first | refine blk_drewN ?_ _ | refine blk_drew ?_ | refine blk_alloc ?_ _)); refine blk_put (cs := #[.int .i64 t147, .int .i64 t148, .bool t149, .int .i64 0, .int .i64 0, .int .i64 0, .bool false, .int .i64 0, .int .i64 0]) ?_ 3 _ rfl; (with_reducible repeat (first | refine blk_drewN ?_ _ | refine blk_drew ?_ | refine blk_alloc ?_ _)); refine blk_put (cs := #[.int .i64 t147, .int .i64 t148, .bool false, .int .i64 0, .int .i64 0, .int .i64 0, .bool false, .int .i64 0, .int .i64 0]) ?_ 2 _ rfl; (with_reducible repeat (first | refine blk_drewN ?_ _ | refine blk_drew ?_ | refine blk_alloc ?_ _)); refine blk_put (cs := #[.int .i64 t147, .int .i64 0, .bool false, .int .i64 0, .int .i64 0, .int .i64 0, .bool false, .int .i64 0, .int .i64 0]) ?_ 1 _ rfl; (with_reducible repeat (first | refine blk_drewN ?_ _ | refine blk_drew ?_ | refine blk_alloc ?_ _)); refine blk_put (cs := #[.int .i64 0, .int .i64 0, .bool false, .int .i64 0, .int .i64 0, .int .i64 0, .bool false, .int .i64 0, .int .i64 0]) ?_ 0 _ rfl; (with_reducible repeat (first | refine blk_drewN ?_ _ | refine blk_drew ?_ | refine blk_alloc ?_ _)); exact BK157.out) hb); have n2_ := Aside0.mk (below_step (by repeat (first | (with_reducible first | exact HB.out | apply below_alloc | apply pw_below_drewN | apply below_drew1 | refine below_set ?_ GE146.out | refine below_set ?_ GE157.out) | exact HB.out)) hb); clear BK146; clear BK157; clear HB; have BK146 := n0_; have BK157 := n1_; have HB := n2_; clear n0_ n1_ n2_; (try clear hb); (try clear hb2); (try clear hk); (try clear hi)))
                    go_meet
                    case rel => exact ⟨_, (true), (by first | rfl | (simp; done) | (simp [*]; done)), H', ⟨by have := HK1.out; have := HJ1.out; first | omega | exact Nat.le_refl _⟩, ⟨by (with_reducible repeat (first | refine blk_drewN ?_ _ | refine blk_drew ?_ | refine blk_alloc ?_ _)); exact BK146.out⟩, ⟨by (with_reducible repeat (first | refine blk_drewN ?_ _ | refine blk_drew ?_ | refine blk_alloc ?_ _)); exact BK157.out⟩, ⟨by repeat (first | (with_reducible first | exact HB.out | apply below_alloc | apply pw_below_drewN | apply below_drew1 | refine below_set ?_ GE146.out | refine below_set ?_ GE157.out) | exact HB.out)⟩⟩
                case rest =>
                  clear HC8
                  try clear c1
                  try clear p1
                  try clear q1
                  try clear hx1
                  try clear c2
                  try clear p2
                  try clear c3
                  try clear c3b0
                  try clear c4
                  try clear c5
                  try clear c5b0
                  try clear c6
                  try clear c6b0
                  try clear c10
                  try clear c13
                  try clear c14
                  try clear p14
                  try clear q14
                  try clear hx14
                  try clear c16
                  try clear c17
                  try clear c17b0
                  try clear c18
                  try clear c22
                  try clear c26
                  try clear hcz10_0
                  try clear hcz10_1
                  try clear hcz10_10
                  try clear hcz10_11
                  try clear hcz10_12
                  try clear hcz10_2
                  try clear hcz10_3
                  try clear hcz10_4
                  try clear hcz10_5
                  try clear hcz10_6
                  try clear hcz10_7
                  try clear hcz10_8
                  try clear hcz10_9
                  try clear hcz14_0
                  try clear hcz14_1
                  try clear hcz14_2
                  try clear hcz14_3
                  try clear hcz14_4
                  try clear hcz14_5
                  try clear hcz14_6
                  try clear hcz14_7
                  try clear hcz14_8
                  try clear hcz19_0
                  try clear hcz19_1
                  try clear hcz19_10
                  try clear hcz19_11
                  try clear hcz19_12
                  try clear hcz19_2
                  try clear hcz19_3
                  try clear hcz19_4
                  try clear hcz19_5
                  try clear hcz19_6
                  try clear hcz19_7
                  try clear hcz19_8
                  try clear hcz19_9
                  try clear hcz21_0
                  try clear hcz21_1
                  try clear hcz21_10
                  try clear hcz21_11
                  try clear hcz21_12
                  try clear hcz21_2
                  try clear hcz21_3
                  try clear hcz21_4
                  try clear hcz21_5
                  try clear hcz21_6
                  try clear hcz21_7
                  try clear hcz21_8
                  try clear hcz21_9
                  try clear hcz23_0
                  try clear hcz23_1
                  try clear hcz23_10
                  try clear hcz23_11
                  try clear hcz23_12
                  try clear hcz23_2
                  try clear hcz23_3
                  try clear hcz23_4
                  try clear hcz23_5
                  try clear hcz23_6
                  try clear hcz23_7
                  try clear hcz23_8
                  try clear hcz23_9
                  try clear hcz25_0
                  try clear hcz25_1
                  try clear hcz25_10
                  try clear hcz25_11
                  try clear hcz25_12
                  try clear hcz25_2
                  try clear hcz25_3
                  try clear hcz25_4
                  try clear hcz25_5
                  try clear hcz25_6
                  try clear hcz25_7
                  try clear hcz25_8
                  try clear hcz25_9
                  try clear hcz27_0
                  try clear hcz27_1
                  try clear hcz27_10
                  try clear hcz27_11
                  try clear hcz27_12
                  try clear hcz27_2
                  try clear hcz27_3
                  try clear hcz27_4
                  try clear hcz27_5
                  try clear hcz27_6
                  try clear hcz27_7
                  try clear hcz27_8
                  try clear hcz27_9
                  try clear hfz10_0
                  try clear hfz10_1
                  try clear hfz10_10
                  try clear hfz10_11
                  try clear hfz10_12
                  try clear hfz10_2
                  try clear hfz10_3
                  try clear hfz10_4
                  try clear hfz10_5
                  try clear hfz10_6
                  try clear hfz10_7
                  try clear hfz10_8
                  try clear hfz10_9
                  try clear hfz14_0
                  try clear hfz14_1
                  try clear hfz14_2
                  try clear hfz14_3
                  try clear hfz14_4
                  try clear hfz14_5
                  try clear hfz14_6
                  try clear hfz14_7
                  try clear hfz14_8
                  try clear hfz19_0
                  try clear hfz19_1
                  try clear hfz19_10
                  try clear hfz19_11
                  try clear hfz19_12
                  try clear hfz19_2
                  try clear hfz19_3
                  try clear hfz19_4
                  try clear hfz19_5
                  try clear hfz19_6
                  try clear hfz19_7
                  try clear hfz19_8
                  try clear hfz19_9
                  try clear hfz21_0
                  try clear hfz21_1
                  try clear hfz21_10
                  try clear hfz21_11
                  try clear hfz21_12
                  try clear hfz21_2
                  try clear hfz21_3
                  try clear hfz21_4
                  try clear hfz21_5
                  try clear hfz21_6
                  try clear hfz21_7
                  try clear hfz21_8
                  try clear hfz21_9
                  try clear hfz23_0
                  try clear hfz23_1
                  try clear hfz23_10
                  try clear hfz23_11
                  try clear hfz23_12
                  try clear hfz23_2
                  try clear hfz23_3
                  try clear hfz23_4
                  try clear hfz23_5
                  try clear hfz23_6
                  try clear hfz23_7
                  try clear hfz23_8
                  try clear hfz23_9
                  try clear hfz25_0
                  try clear hfz25_1
                  try clear hfz25_10
                  try clear hfz25_11
                  try clear hfz25_12
                  try clear hfz25_2
                  try clear hfz25_3
                  try clear hfz25_4
                  try clear hfz25_5
                  try clear hfz25_6
                  try clear hfz25_7
                  try clear hfz25_8
                  try clear hfz25_9
                  try clear hfz27_0
                  try clear hfz27_1
                  try clear hfz27_10
                  try clear hfz27_11
                  try clear hfz27_12
                  try clear hfz27_2
                  try clear hfz27_3
                  try clear hfz27_4
                  try clear hfz27_5
                  try clear hfz27_6
                  try clear hfz27_7
                  try clear hfz27_8
                  try clear hfz27_9
                  try clear hx145_0
                  try clear hx145_1
                  try clear hx145_10
                  try clear hx145_11
                  try clear hx145_12
                  try clear hx145_2
                  try clear hx145_3
                  try clear hx145_4
                  try clear hx145_5
                  try clear hx145_6
                  try clear hx145_7
                  try clear hx145_8
                  try clear hx145_9
                  try clear p145
                  try clear p2
                  try clear q145
                  obtain ⟨kq, x46_7, rfl, HA, HJ7, BK146, BK157, HB⟩ := hcut
                  cases kq with
                  | zero => exact absurd HA.out (by simp [gimballaw9_DrvSets.j2])
                  | succ kj7 =>
                    have H := HA.out
                    clear HA
                    simp only [gimballaw9_DrvSets.j2] at H
                    by_cases c29 : x46_7 = true
                    · subst c29
                      have H1 : ((gimballaw9_num.f t156).bind fun t159 => (if t159 = 1 then (if (!(t147 == 0) || (!(t148 == 0) || (t149 || (!(t150 == 0) || (!(t151 == 0) || (!(t152 == 0) || (t153 || (!(t154 == 0) || (!(t155 == 0)))))))))) = true then (some false) else (gimballaw9_DrvSets.l0 kj7 l0 (wrap64 (x3_1 + 1)))) else (some false))) = some r := by rw [if_pos rfl] at H; exact H
                      clear H
                      have H := H1
                      clear H1
                      replace H := Option.bind_eq_some_iff.mp H
                      obtain ⟨t159, A300, H⟩ := H
                      replace H : (if t159 = 1 then (if (!(t147 == 0) || (!(t148 == 0) || (t149 || (!(t150 == 0) || (!(t151 == 0) || (!(t152 == 0) || (t153 || (!(t154 == 0) || (!(t155 == 0)))))))))) = true then (some false) else (gimballaw9_DrvSets.l0 kj7 l0 (wrap64 (x3_1 + 1)))) else (some false)) = some r := H
                      have A30 := Aside0.mk A300
                      clear A300
                      by_cases c31 : t159 = 1
                      · rw [if_pos c31] at H
                        have c31b0 : (t159 == 1) = true := beq_iff_eq.mpr c31
                        have c31b1 : (t159 != 1) = false := bne_eq_false_iff_eq.mpr c31
                        clear c31
                        by_cases c32 : (!(t147 == 0) || (!(t148 == 0) || (t149 || (!(t150 == 0) || (!(t151 == 0) || (!(t152 == 0) || (t153 || (!(t154 == 0) || (!(t155 == 0)))))))))) = true
                        · rw [if_pos c32] at H
                          have c32b0 : (!(t147 == 0) || (!(t148 == 0) || (t149 || (!(t150 == 0) || (!(t151 == 0) || (!(t152 == 0) || (t153 || (!(t154 == 0) || (!(t155 == 0)))))))))) = true := c32
                          clear c32
                          exact absurd ((Option.some.inj H).trans hrt_.out) (by simp)
                        · rw [if_neg c32] at H
                          have c32b0 : (!(t147 == 0) || (!(t148 == 0) || (t149 || (!(t150 == 0) || (!(t151 == 0) || (!(t152 == 0) || (t153 || (!(t154 == 0) || (!(t155 == 0)))))))))) = false := by simpa using c32
                          clear c32
                          have H' := Aside0.mk H
                          clear H
                          go_wp2_with (first | ((with_reducible refine gate_callee (f := 11) rfl ?_); refine goesL_ (some 48) rfl rfl Try.func11 (by kernel_rfl) rfl #[.int .i64 t156] rfl (by (try simp only [List.map_toArray, List.map_cons, List.map_nil]); first | done | rfl | (simp only [List.length_drop, List.length_take]; rfl)) ?_; (with_reducible refine (gimballaw9_num.calls t156 t159 _ A30.out).mono ?_); rintro e w' ⟨rfl, ⟨nd, rfl⟩⟩; refine ⟨_, rfl, ?_⟩; have hnb33 := NB157_146.out; have hnc33 := NB146_157.out; have hcz34_0 : wc.cell? ⟨gb157, 0, none⟩ = some (.int .i64 t147) := (blk_cell BK157.out 0).trans rfl; have hcz34_1 : wc.cell? ⟨gb157, 1, none⟩ = some (.int .i64 t148) := (blk_cell BK157.out 1).trans rfl; have hcz34_2 : wc.cell? ⟨gb157, 2, none⟩ = some (.bool t149) := (blk_cell BK157.out 2).trans rfl; have hcz34_3 : wc.cell? ⟨gb157, 3, none⟩ = some (.int .i64 t150) := (blk_cell BK157.out 3).trans rfl; have hcz34_4 : wc.cell? ⟨gb157, 4, none⟩ = some (.int .i64 t151) := (blk_cell BK157.out 4).trans rfl; have hcz34_5 : wc.cell? ⟨gb157, 5, none⟩ = some (.int .i64 t152) := (blk_cell BK157.out 5).trans rfl; have hcz34_6 : wc.cell? ⟨gb157, 6, none⟩ = some (.bool t153) := (blk_cell BK157.out 6).trans rfl; have hcz34_7 : wc.cell? ⟨gb157, 7, none⟩ = some (.int .i64 t154) := (blk_cell BK157.out 7).trans rfl; have hcz34_8 : wc.cell? ⟨gb157, 8, none⟩ = some (.int .i64 t155) := (blk_cell BK157.out 8).trans rfl; have hfz34_0 := blk_frozen BK157.out 0; have hfz34_1 := blk_frozen BK157.out 1; have hfz34_2 := blk_frozen BK157.out 2; have hfz34_3 := blk_frozen BK157.out 3; have hfz34_4 := blk_frozen BK157.out 4; have hfz34_5 := blk_frozen BK157.out 5; have hfz34_6 := blk_frozen BK157.out 6; have hfz34_7 := blk_frozen BK157.out 7; have hfz34_8 := blk_frozen BK157.out 8))
                          go_roundg kj7
                          case measure => have := HK1.out; have := HJ1.out; have := HJ7.out; omega
                          case rel => exact ⟨(wrap64 (x3_1 + 1)), (by first | rfl | (simp; done) | (simp [*]; done)), H', ⟨by have := HK1.out; have := HJ1.out; have := HJ7.out; omega⟩, ⟨by repeat (first | (with_reducible first | exact HB.out | apply below_alloc | apply pw_below_drewN | apply below_drew1 | refine below_set ?_ GE146.out | refine below_set ?_ GE157.out) | exact HB.out)⟩⟩
                      · rw [if_neg c31] at H
                        have c31b0 : (t159 == 1) = false := beq_eq_false_iff_ne.mpr c31
                        have c31b1 : (t159 != 1) = true := bne_iff_ne.mpr c31
                        exact absurd ((Option.some.inj H).trans hrt_.out) (by simp)
                    · replace c29 := Bool.eq_false_iff.mpr c29
                      subst c29
                      have H1 : ((drv_Set.f kj7 t147 t148 t149 t150 t151 t152 t153 t154 t155 ((rd_T29 l0 x3_1).f1) ((rd_T29 l0 x3_1).f2)).bind fun bt160 => ((gimballaw9_num.f t156).bind fun t171 => (if t171 = 0 then ((gimballaw9_num.f bt160.2.2.2.2.2.2.2.2.2).bind fun t172 => (if t172 = 0 then ((gimbalref9_Set.f ((rd_T29 l0 x3_1).f0.f0) ((rd_T29 l0 x3_1).f0.f1) ((rd_T29 l0 x3_1).f0.f2) ((rd_T29 l0 x3_1).f0.f3) ((rd_T29 l0 x3_1).f0.f4) ((rd_T29 l0 x3_1).f0.f5) ((rd_T29 l0 x3_1).f0.f6) ((rd_T29 l0 x3_1).f0.f7) ((rd_T29 l0 x3_1).f0.f8) ((rd_T29 l0 x3_1).f1) ((rd_T29 l0 x3_1).f2)).bind fun bt173 => (if (!(t147 == bt173.1) || (!(t148 == bt173.2.1) || (!(t149 == bt173.2.2.1) || (!(t150 == bt173.2.2.2.1) || (!(t151 == bt173.2.2.2.2.1) || (!(t152 == bt173.2.2.2.2.2.1) || (!(t153 == bt173.2.2.2.2.2.2.1) || (!(t154 == bt173.2.2.2.2.2.2.2.1) || (!(t155 == bt173.2.2.2.2.2.2.2.2)))))))))) = true then (some false) else (if (!(bt160.1 == t147) || (!(bt160.2.1 == t148) || (!(bt160.2.2.1 == t149) || (!(bt160.2.2.2.1 == t150) || (!(bt160.2.2.2.2.1 == t151) || (!(bt160.2.2.2.2.2.1 == t152) || (!(bt160.2.2.2.2.2.2.1 == t153) || (!(bt160.2.2.2.2.2.2.2.1 == t154) || (!(bt160.2.2.2.2.2.2.2.2.1 == t155)))))))))) = true then (some false) else (if (t149 != ((rd_T29 l0 x3_1).f1)) = true then (some false) else (if t150 = ((rd_T29 l0 x3_1).f2) then (if (t153 != ((rd_T29 l0 x3_1).f0.f6)) = true then (some false) else (if t155 = ((rd_T29 l0 x3_1).f0.f8) then (gimballaw9_DrvSets.l0 kj7 l0 (wrap64 (x3_1 + 1))) else (some false))) else (some false)))))) else (some false))) else (some false)))) = some r := by rw [if_neg (show ¬ (false = true) by decide)] at H; exact H
                      clear H
                      have H := H1
                      clear H1
                      replace H := Option.bind_eq_some_iff.mp H
                      obtain ⟨⟨t160, t161, t162, t163, t164, t165, t166, t167, t168, t169⟩, A350, H⟩ := H
                      replace H : ((gimballaw9_num.f t156).bind fun t171 => (if t171 = 0 then ((gimballaw9_num.f t169).bind fun t172 => (if t172 = 0 then ((gimbalref9_Set.f ((rd_T29 l0 x3_1).f0.f0) ((rd_T29 l0 x3_1).f0.f1) ((rd_T29 l0 x3_1).f0.f2) ((rd_T29 l0 x3_1).f0.f3) ((rd_T29 l0 x3_1).f0.f4) ((rd_T29 l0 x3_1).f0.f5) ((rd_T29 l0 x3_1).f0.f6) ((rd_T29 l0 x3_1).f0.f7) ((rd_T29 l0 x3_1).f0.f8) ((rd_T29 l0 x3_1).f1) ((rd_T29 l0 x3_1).f2)).bind fun bt173 => (if (!(t147 == bt173.1) || (!(t148 == bt173.2.1) || (!(t149 == bt173.2.2.1) || (!(t150 == bt173.2.2.2.1) || (!(t151 == bt173.2.2.2.2.1) || (!(t152 == bt173.2.2.2.2.2.1) || (!(t153 == bt173.2.2.2.2.2.2.1) || (!(t154 == bt173.2.2.2.2.2.2.2.1) || (!(t155 == bt173.2.2.2.2.2.2.2.2)))))))))) = true then (some false) else (if (!(t160 == t147) || (!(t161 == t148) || (!(t162 == t149) || (!(t163 == t150) || (!(t164 == t151) || (!(t165 == t152) || (!(t166 == t153) || (!(t167 == t154) || (!(t168 == t155)))))))))) = true then (some false) else (if (t149 != ((rd_T29 l0 x3_1).f1)) = true then (some false) else (if t150 = ((rd_T29 l0 x3_1).f2) then (if (t153 != ((rd_T29 l0 x3_1).f0.f6)) = true then (some false) else (if t155 = ((rd_T29 l0 x3_1).f0.f8) then (gimballaw9_DrvSets.l0 kj7 l0 (wrap64 (x3_1 + 1))) else (some false))) else (some false)))))) else (some false))) else (some false))) = some r := H
                      have A35 := Aside0.mk A350
                      clear A350
                      replace H := Option.bind_eq_some_iff.mp H
                      obtain ⟨t171, A360, H⟩ := H
                      replace H : (if t171 = 0 then ((gimballaw9_num.f t169).bind fun t172 => (if t172 = 0 then ((gimbalref9_Set.f ((rd_T29 l0 x3_1).f0.f0) ((rd_T29 l0 x3_1).f0.f1) ((rd_T29 l0 x3_1).f0.f2) ((rd_T29 l0 x3_1).f0.f3) ((rd_T29 l0 x3_1).f0.f4) ((rd_T29 l0 x3_1).f0.f5) ((rd_T29 l0 x3_1).f0.f6) ((rd_T29 l0 x3_1).f0.f7) ((rd_T29 l0 x3_1).f0.f8) ((rd_T29 l0 x3_1).f1) ((rd_T29 l0 x3_1).f2)).bind fun bt173 => (if (!(t147 == bt173.1) || (!(t148 == bt173.2.1) || (!(t149 == bt173.2.2.1) || (!(t150 == bt173.2.2.2.1) || (!(t151 == bt173.2.2.2.2.1) || (!(t152 == bt173.2.2.2.2.2.1) || (!(t153 == bt173.2.2.2.2.2.2.1) || (!(t154 == bt173.2.2.2.2.2.2.2.1) || (!(t155 == bt173.2.2.2.2.2.2.2.2)))))))))) = true then (some false) else (if (!(t160 == t147) || (!(t161 == t148) || (!(t162 == t149) || (!(t163 == t150) || (!(t164 == t151) || (!(t165 == t152) || (!(t166 == t153) || (!(t167 == t154) || (!(t168 == t155)))))))))) = true then (some false) else (if (t149 != ((rd_T29 l0 x3_1).f1)) = true then (some false) else (if t150 = ((rd_T29 l0 x3_1).f2) then (if (t153 != ((rd_T29 l0 x3_1).f0.f6)) = true then (some false) else (if t155 = ((rd_T29 l0 x3_1).f0.f8) then (gimballaw9_DrvSets.l0 kj7 l0 (wrap64 (x3_1 + 1))) else (some false))) else (some false)))))) else (some false))) else (some false)) = some r := H
                      have A36 := Aside0.mk A360
                      clear A360
                      by_cases c37 : t171 = 0
                      · rw [if_pos c37] at H
                        have c37b0 : (t171 == 0) = true := beq_iff_eq.mpr c37
                        have c37b1 : (t171 != 0) = false := bne_eq_false_iff_eq.mpr c37
                        clear c37
                        replace H := Option.bind_eq_some_iff.mp H
                        obtain ⟨t172, A380, H⟩ := H
                        replace H : (if t172 = 0 then ((gimbalref9_Set.f ((rd_T29 l0 x3_1).f0.f0) ((rd_T29 l0 x3_1).f0.f1) ((rd_T29 l0 x3_1).f0.f2) ((rd_T29 l0 x3_1).f0.f3) ((rd_T29 l0 x3_1).f0.f4) ((rd_T29 l0 x3_1).f0.f5) ((rd_T29 l0 x3_1).f0.f6) ((rd_T29 l0 x3_1).f0.f7) ((rd_T29 l0 x3_1).f0.f8) ((rd_T29 l0 x3_1).f1) ((rd_T29 l0 x3_1).f2)).bind fun bt173 => (if (!(t147 == bt173.1) || (!(t148 == bt173.2.1) || (!(t149 == bt173.2.2.1) || (!(t150 == bt173.2.2.2.1) || (!(t151 == bt173.2.2.2.2.1) || (!(t152 == bt173.2.2.2.2.2.1) || (!(t153 == bt173.2.2.2.2.2.2.1) || (!(t154 == bt173.2.2.2.2.2.2.2.1) || (!(t155 == bt173.2.2.2.2.2.2.2.2)))))))))) = true then (some false) else (if (!(t160 == t147) || (!(t161 == t148) || (!(t162 == t149) || (!(t163 == t150) || (!(t164 == t151) || (!(t165 == t152) || (!(t166 == t153) || (!(t167 == t154) || (!(t168 == t155)))))))))) = true then (some false) else (if (t149 != ((rd_T29 l0 x3_1).f1)) = true then (some false) else (if t150 = ((rd_T29 l0 x3_1).f2) then (if (t153 != ((rd_T29 l0 x3_1).f0.f6)) = true then (some false) else (if t155 = ((rd_T29 l0 x3_1).f0.f8) then (gimballaw9_DrvSets.l0 kj7 l0 (wrap64 (x3_1 + 1))) else (some false))) else (some false)))))) else (some false)) = some r := H
                        have A38 := Aside0.mk A380
                        clear A380
                        by_cases c39 : t172 = 0
                        · rw [if_pos c39] at H
                          have c39b0 : (t172 == 0) = true := beq_iff_eq.mpr c39
                          have c39b1 : (t172 != 0) = false := bne_eq_false_iff_eq.mpr c39
                          clear c39
                          replace H := Option.bind_eq_some_iff.mp H
                          obtain ⟨⟨t173, t174, t175, t176, t177, t178, t179, t180, t181⟩, A400, H⟩ := H
                          replace H : (if (!(t147 == t173) || (!(t148 == t174) || (!(t149 == t175) || (!(t150 == t176) || (!(t151 == t177) || (!(t152 == t178) || (!(t153 == t179) || (!(t154 == t180) || (!(t155 == t181)))))))))) = true then (some false) else (if (!(t160 == t147) || (!(t161 == t148) || (!(t162 == t149) || (!(t163 == t150) || (!(t164 == t151) || (!(t165 == t152) || (!(t166 == t153) || (!(t167 == t154) || (!(t168 == t155)))))))))) = true then (some false) else (if (t149 != ((rd_T29 l0 x3_1).f1)) = true then (some false) else (if t150 = ((rd_T29 l0 x3_1).f2) then (if (t153 != ((rd_T29 l0 x3_1).f0.f6)) = true then (some false) else (if t155 = ((rd_T29 l0 x3_1).f0.f8) then (gimballaw9_DrvSets.l0 kj7 l0 (wrap64 (x3_1 + 1))) else (some false))) else (some false))))) = some r := H
                          have A40 := Aside0.mk A400
                          clear A400
                          by_cases c41 : (!(t147 == t173) || (!(t148 == t174) || (!(t149 == t175) || (!(t150 == t176) || (!(t151 == t177) || (!(t152 == t178) || (!(t153 == t179) || (!(t154 == t180) || (!(t155 == t181)))))))))) = true
                          · rw [if_pos c41] at H
                            have c41b0 : (!(t147 == t173) || (!(t148 == t174) || (!(t149 == t175) || (!(t150 == t176) || (!(t151 == t177) || (!(t152 == t178) || (!(t153 == t179) || (!(t154 == t180) || (!(t155 == t181)))))))))) = true := c41
                            clear c41
                            exact absurd ((Option.some.inj H).trans hrt_.out) (by simp)
                          · rw [if_neg c41] at H
                            have c41b0 : (!(t147 == t173) || (!(t148 == t174) || (!(t149 == t175) || (!(t150 == t176) || (!(t151 == t177) || (!(t152 == t178) || (!(t153 == t179) || (!(t154 == t180) || (!(t155 == t181)))))))))) = false := by simpa using c41
                            clear c41
                            by_cases c42 : (!(t160 == t147) || (!(t161 == t148) || (!(t162 == t149) || (!(t163 == t150) || (!(t164 == t151) || (!(t165 == t152) || (!(t166 == t153) || (!(t167 == t154) || (!(t168 == t155)))))))))) = true
                            · rw [if_pos c42] at H
                              have c42b0 : (!(t160 == t147) || (!(t161 == t148) || (!(t162 == t149) || (!(t163 == t150) || (!(t164 == t151) || (!(t165 == t152) || (!(t166 == t153) || (!(t167 == t154) || (!(t168 == t155)))))))))) = true := c42
                              clear c42
                              exact absurd ((Option.some.inj H).trans hrt_.out) (by simp)
                            · rw [if_neg c42] at H
                              have c42b0 : (!(t160 == t147) || (!(t161 == t148) || (!(t162 == t149) || (!(t163 == t150) || (!(t164 == t151) || (!(t165 == t152) || (!(t166 == t153) || (!(t167 == t154) || (!(t168 == t155)))))))))) = false := by simpa using c42
                              clear c42
                              by_cases c43 : (t149 != ((rd_T29 l0 x3_1).f1)) = true
                              · rw [if_pos c43] at H
                                have c43b0 : (t149 != ((rd_T29 l0 x3_1).f1)) = true := c43
                                (try (have c43b1 : decide (t149 = ((rd_T29 l0 x3_1).f1)) = false := by simpa using c43))
                                (try (have c43b2 : (t149 == ((rd_T29 l0 x3_1).f1)) = false := by simpa using c43))
                                (try (have c43b3 : ¬ (t149 = ((rd_T29 l0 x3_1).f1)) := by simpa using c43))
                                clear c43
                                exact absurd ((Option.some.inj H).trans hrt_.out) (by simp)
                              · rw [if_neg c43] at H
                                have c43b0 : (t149 != ((rd_T29 l0 x3_1).f1)) = false := by simpa using c43
                                (try (have c43b1 : decide (t149 = ((rd_T29 l0 x3_1).f1)) = true := by simpa using c43))
                                (try (have c43b2 : (t149 == ((rd_T29 l0 x3_1).f1)) = true := by simpa using c43))
                                clear c43
                                by_cases c44 : t150 = ((rd_T29 l0 x3_1).f2)
                                · rw [if_pos c44] at H
                                  have c44b0 : (t150 == ((rd_T29 l0 x3_1).f2)) = true := beq_iff_eq.mpr c44
                                  have c44b1 : (t150 != ((rd_T29 l0 x3_1).f2)) = false := bne_eq_false_iff_eq.mpr c44
                                  clear c44
                                  by_cases c45 : (t153 != ((rd_T29 l0 x3_1).f0.f6)) = true
                                  · rw [if_pos c45] at H
                                    have c45b0 : (t153 != ((rd_T29 l0 x3_1).f0.f6)) = true := c45
                                    (try (have c45b1 : decide (t153 = ((rd_T29 l0 x3_1).f0.f6)) = false := by simpa using c45))
                                    (try (have c45b2 : (t153 == ((rd_T29 l0 x3_1).f0.f6)) = false := by simpa using c45))
                                    (try (have c45b3 : ¬ (t153 = ((rd_T29 l0 x3_1).f0.f6)) := by simpa using c45))
                                    clear c45
                                    exact absurd ((Option.some.inj H).trans hrt_.out) (by simp)
                                  · rw [if_neg c45] at H
                                    have c45b0 : (t153 != ((rd_T29 l0 x3_1).f0.f6)) = false := by simpa using c45
                                    (try (have c45b1 : decide (t153 = ((rd_T29 l0 x3_1).f0.f6)) = true := by simpa using c45))
                                    (try (have c45b2 : (t153 == ((rd_T29 l0 x3_1).f0.f6)) = true := by simpa using c45))
                                    clear c45
                                    by_cases c46 : t155 = ((rd_T29 l0 x3_1).f0.f8)
                                    · rw [if_pos c46] at H
                                      have c46b0 : (t155 == ((rd_T29 l0 x3_1).f0.f8)) = true := beq_iff_eq.mpr c46
                                      have c46b1 : (t155 != ((rd_T29 l0 x3_1).f0.f8)) = false := bne_eq_false_iff_eq.mpr c46
                                      clear c46
                                      have H' := Aside0.mk H
                                      clear H
                                      have hnb47 := NB157_146.out
                                      have hnc47 := NB146_157.out
                                      have hcz48_0 : wc.cell? ⟨gb157, 0, none⟩ = some (.int .i64 t147) := (blk_cell BK157.out 0).trans rfl
                                      have hcz48_1 : wc.cell? ⟨gb157, 1, none⟩ = some (.int .i64 t148) := (blk_cell BK157.out 1).trans rfl
                                      have hcz48_2 : wc.cell? ⟨gb157, 2, none⟩ = some (.bool t149) := (blk_cell BK157.out 2).trans rfl
                                      have hcz48_3 : wc.cell? ⟨gb157, 3, none⟩ = some (.int .i64 t150) := (blk_cell BK157.out 3).trans rfl
                                      have hcz48_4 : wc.cell? ⟨gb157, 4, none⟩ = some (.int .i64 t151) := (blk_cell BK157.out 4).trans rfl
                                      have hcz48_5 : wc.cell? ⟨gb157, 5, none⟩ = some (.int .i64 t152) := (blk_cell BK157.out 5).trans rfl
                                      have hcz48_6 : wc.cell? ⟨gb157, 6, none⟩ = some (.bool t153) := (blk_cell BK157.out 6).trans rfl
                                      have hcz48_7 : wc.cell? ⟨gb157, 7, none⟩ = some (.int .i64 t154) := (blk_cell BK157.out 7).trans rfl
                                      have hcz48_8 : wc.cell? ⟨gb157, 8, none⟩ = some (.int .i64 t155) := (blk_cell BK157.out 8).trans rfl
                                      have hfz48_0 := blk_frozen BK157.out 0
                                      have hfz48_1 := blk_frozen BK157.out 1
                                      have hfz48_2 := blk_frozen BK157.out 2
                                      have hfz48_3 := blk_frozen BK157.out 3
                                      have hfz48_4 := blk_frozen BK157.out 4
                                      have hfz48_5 := blk_frozen BK157.out 5
                                      have hfz48_6 := blk_frozen BK157.out 6
                                      have hfz48_7 := blk_frozen BK157.out 7
                                      have hfz48_8 := blk_frozen BK157.out 8
                                      have hcz49_0 : wc.cell? ⟨gb146, 0, none⟩ = some (.int .i64 ((rd_T29 l0 x3_1).f0.f0)) := (blk_cell BK146.out 0).trans rfl
                                      have hcz49_1 : wc.cell? ⟨gb146, 1, none⟩ = some (.int .i64 ((rd_T29 l0 x3_1).f0.f1)) := (blk_cell BK146.out 1).trans rfl
                                      have hcz49_2 : wc.cell? ⟨gb146, 2, none⟩ = some (.bool ((rd_T29 l0 x3_1).f0.f2)) := (blk_cell BK146.out 2).trans rfl
                                      have hcz49_3 : wc.cell? ⟨gb146, 3, none⟩ = some (.int .i64 ((rd_T29 l0 x3_1).f0.f3)) := (blk_cell BK146.out 3).trans rfl
                                      have hcz49_4 : wc.cell? ⟨gb146, 4, none⟩ = some (.int .i64 ((rd_T29 l0 x3_1).f0.f4)) := (blk_cell BK146.out 4).trans rfl
                                      have hcz49_5 : wc.cell? ⟨gb146, 5, none⟩ = some (.int .i64 ((rd_T29 l0 x3_1).f0.f5)) := (blk_cell BK146.out 5).trans rfl
                                      have hcz49_6 : wc.cell? ⟨gb146, 6, none⟩ = some (.bool ((rd_T29 l0 x3_1).f0.f6)) := (blk_cell BK146.out 6).trans rfl
                                      have hcz49_7 : wc.cell? ⟨gb146, 7, none⟩ = some (.int .i64 ((rd_T29 l0 x3_1).f0.f7)) := (blk_cell BK146.out 7).trans rfl
                                      have hcz49_8 : wc.cell? ⟨gb146, 8, none⟩ = some (.int .i64 ((rd_T29 l0 x3_1).f0.f8)) := (blk_cell BK146.out 8).trans rfl
                                      have hcz49_9 : wc.cell? ⟨gb146, 9, none⟩ = some (.bool ((rd_T29 l0 x3_1).f1)) := (blk_cell BK146.out 9).trans rfl
                                      have hcz49_10 : wc.cell? ⟨gb146, 10, none⟩ = some (.int .i64 ((rd_T29 l0 x3_1).f2)) := (blk_cell BK146.out 10).trans rfl
                                      have hcz49_11 : wc.cell? ⟨gb146, 11, none⟩ = some (.int .i64 ((rd_T29 l0 x3_1).f3.f0)) := (blk_cell BK146.out 11).trans rfl
                                      have hcz49_12 : wc.cell? ⟨gb146, 12, none⟩ = some (.slice A145_12 ((rd_T29 l0 x3_1).f3.f1).length c145_12) := (blk_cell BK146.out 12).trans rfl
                                      have hfz49_0 := blk_frozen BK146.out 0
                                      have hfz49_1 := blk_frozen BK146.out 1
                                      have hfz49_2 := blk_frozen BK146.out 2
                                      have hfz49_3 := blk_frozen BK146.out 3
                                      have hfz49_4 := blk_frozen BK146.out 4
                                      have hfz49_5 := blk_frozen BK146.out 5
                                      have hfz49_6 := blk_frozen BK146.out 6
                                      have hfz49_7 := blk_frozen BK146.out 7
                                      have hfz49_8 := blk_frozen BK146.out 8
                                      have hfz49_9 := blk_frozen BK146.out 9
                                      have hfz49_10 := blk_frozen BK146.out 10
                                      have hfz49_11 := blk_frozen BK146.out 11
                                      have hfz49_12 := blk_frozen BK146.out 12
                                      try go_wp2_with (first | ((with_reducible refine gate_callee (f := 14) rfl ?_); refine goesL_ (some 61) rfl rfl Try.func14 (by kernel_rfl) rfl #[.agg #[.int .i64 t147, .int .i64 t148, .bool t149, .int .i64 t150, .int .i64 t151, .int .i64 t152, .bool t153, .int .i64 t154, .int .i64 t155], .bool ((rd_T29 l0 x3_1).f1), .int .i64 ((rd_T29 l0 x3_1).f2)] rfl (by (try simp only [List.map_toArray, List.map_cons, List.map_nil]); first | done | rfl | (simp only [List.length_drop, List.length_take]; rfl)) ?_; (with_reducible refine (drv_Set.calls kj7 t147 t148 t149 t150 t151 t152 t153 t154 t155 ((rd_T29 l0 x3_1).f1) ((rd_T29 l0 x3_1).f2) t160 t161 t162 t163 t164 t165 t166 t167 t168 t169 _ A35.out).mono ?_); rintro e w50 ⟨rfl, hb⟩; refine ⟨_, rfl, ?_⟩; have n0_ := Aside0.mk (blk_below (g := gb146) (o := .cells #[.int .i64 ((rd_T29 l0 x3_1).f0.f0), .int .i64 ((rd_T29 l0 x3_1).f0.f1), .bool ((rd_T29 l0 x3_1).f0.f2), .int .i64 ((rd_T29 l0 x3_1).f0.f3), .int .i64 ((rd_T29 l0 x3_1).f0.f4), .int .i64 ((rd_T29 l0 x3_1).f0.f5), .bool ((rd_T29 l0 x3_1).f0.f6), .int .i64 ((rd_T29 l0 x3_1).f0.f7), .int .i64 ((rd_T29 l0 x3_1).f0.f8), .bool ((rd_T29 l0 x3_1).f1), .int .i64 ((rd_T29 l0 x3_1).f2), .int .i64 ((rd_T29 l0 x3_1).f3.f0), .slice A145_12 ((rd_T29 l0 x3_1).f3.f1).length c145_12] 29 (0, 0)) (by (with_reducible repeat (first | refine blk_drewN ?_ _ | refine blk_drew ?_ | refine blk_alloc ?_ _)); exact BK146.out) hb); have n1_ := Aside0.mk (blk_below (g := gb157) (o := .cells #[.int .i64 t147, .int .i64 t148, .bool t149, .int .i64 t150, .int .i64 t151, .int .i64 t152, .bool t153, .int .i64 t154, .int .i64 t155] 24 (0, 0)) (by (with_reducible repeat (first | refine blk_drewN ?_ _ | refine blk_drew ?_ | refine blk_alloc ?_ _)); exact BK157.out) hb); have n2_ := Aside0.mk (below_step (by repeat (first | (with_reducible first | exact HB.out | apply below_alloc | apply pw_below_drewN | apply below_drew1 | refine below_set ?_ GE146.out | refine below_set ?_ GE157.out) | exact HB.out)) hb); clear BK146; clear BK157; clear HB; have BK146 := n0_; have BK157 := n1_; have HB := n2_; clear n0_ n1_ n2_; (try clear hb); (try clear hb2); (try clear hk); (try clear hi)) | ((with_reducible refine gate_dst (N := 7) rfl ?_); refine box_event ?hg (N := 7) ?hd (cs := #[.int .i64 0, .int .i64 0, .bool false, .int .i64 0, .int .i64 0, .int .i64 0, .bool false, .int .i64 0, .int .i64 0]) (t := 24) ?hr ?_; (case hd => rfl); (case hg => rfl); (case hr => first | (go_simp; done) | (go_simp; rfl)); intro gb170 hg w51 hbox hb; have n0_ := Aside0.mk (blk_below (g := gb146) (o := .cells #[.int .i64 ((rd_T29 l0 x3_1).f0.f0), .int .i64 ((rd_T29 l0 x3_1).f0.f1), .bool ((rd_T29 l0 x3_1).f0.f2), .int .i64 ((rd_T29 l0 x3_1).f0.f3), .int .i64 ((rd_T29 l0 x3_1).f0.f4), .int .i64 ((rd_T29 l0 x3_1).f0.f5), .bool ((rd_T29 l0 x3_1).f0.f6), .int .i64 ((rd_T29 l0 x3_1).f0.f7), .int .i64 ((rd_T29 l0 x3_1).f0.f8), .bool ((rd_T29 l0 x3_1).f1), .int .i64 ((rd_T29 l0 x3_1).f2), .int .i64 ((rd_T29 l0 x3_1).f3.f0), .slice A145_12 ((rd_T29 l0 x3_1).f3.f1).length c145_12] 29 (0, 0)) (by (with_reducible repeat (first | refine blk_drewN ?_ _ | refine blk_drew ?_ | refine blk_alloc ?_ _)); exact BK146.out) hb); have n1_ := Aside0.mk (blk_below (g := gb157) (o := .cells #[.int .i64 t147, .int .i64 t148, .bool t149, .int .i64 t150, .int .i64 t151, .int .i64 t152, .bool t153, .int .i64 t154, .int .i64 t155] 24 (0, 0)) (by (with_reducible repeat (first | refine blk_drewN ?_ _ | refine blk_drew ?_ | refine blk_alloc ?_ _)); exact BK157.out) hb); have n2_ := Aside0.mk (below_step (by repeat (first | (with_reducible first | exact HB.out | apply below_alloc | apply pw_below_drewN | apply below_drew1 | refine below_set ?_ GE146.out | refine below_set ?_ GE157.out) | exact HB.out)) hb); have n3_ := Aside0.mk (hbox); have n4_ := Aside0.mk ((by rw [hg]; exact (below_size (by repeat (first | (with_reducible first | exact HB.out | apply below_alloc | apply pw_below_drewN | apply below_drew1 | refine below_set ?_ GE146.out | refine below_set ?_ GE157.out) | exact HB.out))) : w.heap.size ≤ gb170)); have n5_ := Aside0.mk ((by rw [hg]; exact (below_size (by repeat (first | (with_reducible first | exact HB.out | apply below_alloc | apply pw_below_drewN | apply below_drew1 | refine below_set ?_ GE146.out | refine below_set ?_ GE157.out) | exact HB.out))) : w.heap.size ≤ gb170)); have n6_ := Aside0.mk ((by rw [hg]; exact Nat.ne_of_lt (blk_lt (g := gb146) (o := .cells #[.int .i64 ((rd_T29 l0 x3_1).f0.f0), .int .i64 ((rd_T29 l0 x3_1).f0.f1), .bool ((rd_T29 l0 x3_1).f0.f2), .int .i64 ((rd_T29 l0 x3_1).f0.f3), .int .i64 ((rd_T29 l0 x3_1).f0.f4), .int .i64 ((rd_T29 l0 x3_1).f0.f5), .bool ((rd_T29 l0 x3_1).f0.f6), .int .i64 ((rd_T29 l0 x3_1).f0.f7), .int .i64 ((rd_T29 l0 x3_1).f0.f8), .bool ((rd_T29 l0 x3_1).f1), .int .i64 ((rd_T29 l0 x3_1).f2), .int .i64 ((rd_T29 l0 x3_1).f3.f0), .slice A145_12 ((rd_T29 l0 x3_1).f3.f1).length c145_12] 29 (0, 0)) (by (with_reducible repeat (first | refine blk_drewN ?_ _ | refine blk_drew ?_ | refine blk_alloc ?_ _)); exact BK146.out)) : gb146 ≠ gb170)); have n7_ := Aside0.mk ((by rw [hg]; exact Nat.ne_of_gt (blk_lt (g := gb146) (o := .cells #[.int .i64 ((rd_T29 l0 x3_1).f0.f0), .int .i64 ((rd_T29 l0 x3_1).f0.f1), .bool ((rd_T29 l0 x3_1).f0.f2), .int .i64 ((rd_T29 l0 x3_1).f0.f3), .int .i64 ((rd_T29 l0 x3_1).f0.f4), .int .i64 ((rd_T29 l0 x3_1).f0.f5), .bool ((rd_T29 l0 x3_1).f0.f6), .int .i64 ((rd_T29 l0 x3_1).f0.f7), .int .i64 ((rd_T29 l0 x3_1).f0.f8), .bool ((rd_T29 l0 x3_1).f1), .int .i64 ((rd_T29 l0 x3_1).f2), .int .i64 ((rd_T29 l0 x3_1).f3.f0), .slice A145_12 ((rd_T29 l0 x3_1).f3.f1).length c145_12] 29 (0, 0)) (by (with_reducible repeat (first | refine blk_drewN ?_ _ | refine blk_drew ?_ | refine blk_alloc ?_ _)); exact BK146.out)) : gb170 ≠ gb146)); have n8_ := Aside0.mk ((by rw [hg]; exact Nat.ne_of_lt (blk_lt (g := gb157) (o := .cells #[.int .i64 t147, .int .i64 t148, .bool t149, .int .i64 t150, .int .i64 t151, .int .i64 t152, .bool t153, .int .i64 t154, .int .i64 t155] 24 (0, 0)) (by (with_reducible repeat (first | refine blk_drewN ?_ _ | refine blk_drew ?_ | refine blk_alloc ?_ _)); exact BK157.out)) : gb157 ≠ gb170)); have n9_ := Aside0.mk ((by rw [hg]; exact Nat.ne_of_gt (blk_lt (g := gb157) (o := .cells #[.int .i64 t147, .int .i64 t148, .bool t149, .int .i64 t150, .int .i64 t151, .int .i64 t152, .bool t153, .int .i64 t154, .int .i64 t155] 24 (0, 0)) (by (with_reducible repeat (first | refine blk_drewN ?_ _ | refine blk_drew ?_ | refine blk_alloc ?_ _)); exact BK157.out)) : gb170 ≠ gb157)); clear BK146; clear BK157; clear HB; have BK146 := n0_; have BK157 := n1_; have HB := n2_; have BK170 := n3_; have GW170 := n4_; have GE170 := n5_; have NB146_170 := n6_; have NB170_146 := n7_; have NB157_170 := n8_; have NB170_157 := n9_; clear n0_ n1_ n2_ n3_ n4_ n5_ n6_ n7_ n8_ n9_; clear hb hbox hg; have hnb52 := NB170_146.out; have hnc52 := NB146_170.out; have hnb53 := NB170_157.out; have hnc53 := NB157_170.out; have hcz54_0 : w51.cell? ⟨gb170, 0, none⟩ = some (.int .i64 0) := (blk_cell BK170.out 0).trans rfl; have hcz54_1 : w51.cell? ⟨gb170, 1, none⟩ = some (.int .i64 0) := (blk_cell BK170.out 1).trans rfl; have hcz54_2 : w51.cell? ⟨gb170, 2, none⟩ = some (.bool false) := (blk_cell BK170.out 2).trans rfl; have hcz54_3 : w51.cell? ⟨gb170, 3, none⟩ = some (.int .i64 0) := (blk_cell BK170.out 3).trans rfl; have hcz54_4 : w51.cell? ⟨gb170, 4, none⟩ = some (.int .i64 0) := (blk_cell BK170.out 4).trans rfl; have hcz54_5 : w51.cell? ⟨gb170, 5, none⟩ = some (.int .i64 0) := (blk_cell BK170.out 5).trans rfl; have hcz54_6 : w51.cell? ⟨gb170, 6, none⟩ = some (.bool false) := (blk_cell BK170.out 6).trans rfl; have hcz54_7 : w51.cell? ⟨gb170, 7, none⟩ = some (.int .i64 0) := (blk_cell BK170.out 7).trans rfl; have hcz54_8 : w51.cell? ⟨gb170, 8, none⟩ = some (.int .i64 0) := (blk_cell BK170.out 8).trans rfl; have hfz54_0 := blk_frozen BK170.out 0; have hfz54_1 := blk_frozen BK170.out 1; have hfz54_2 := blk_frozen BK170.out 2; have hfz54_3 := blk_frozen BK170.out 3; have hfz54_4 := blk_frozen BK170.out 4; have hfz54_5 := blk_frozen BK170.out 5; have hfz54_6 := blk_frozen BK170.out 6; have hfz54_7 := blk_frozen BK170.out 7; have hfz54_8 := blk_frozen BK170.out 8))
                                      have n0_ : Aside0 ((((((((((w51.setCell ⟨gb170, 0, none⟩ (.int .i64 t160)).setCell ⟨gb170, 1, none⟩ (.int .i64 t161)).setCell ⟨gb170, 2, none⟩ (.bool t162)).setCell ⟨gb170, 3, none⟩ (.int .i64 t163)).setCell ⟨gb170, 4, none⟩ (.int .i64 t164)).setCell ⟨gb170, 5, none⟩ (.int .i64 t165)).setCell ⟨gb170, 6, none⟩ (.bool t166)).setCell ⟨gb170, 7, none⟩ (.int .i64 t167)).setCell ⟨gb170, 8, none⟩ (.int .i64 t168)).heap[gb146]? = some (.cells #[.int .i64 ((rd_T29 l0 x3_1).f0.f0), .int .i64 ((rd_T29 l0 x3_1).f0.f1), .bool ((rd_T29 l0 x3_1).f0.f2), .int .i64 ((rd_T29 l0 x3_1).f0.f3), .int .i64 ((rd_T29 l0 x3_1).f0.f4), .int .i64 ((rd_T29 l0 x3_1).f0.f5), .bool ((rd_T29 l0 x3_1).f0.f6), .int .i64 ((rd_T29 l0 x3_1).f0.f7), .int .i64 ((rd_T29 l0 x3_1).f0.f8), .bool ((rd_T29 l0 x3_1).f1), .int .i64 ((rd_T29 l0 x3_1).f2), .int .i64 ((rd_T29 l0 x3_1).f3.f0), .slice A145_12 ((rd_T29 l0 x3_1).f3.f1).length c145_12] 29 (0, 0))) := ⟨by (with_reducible repeat (first | refine blk_drewN ?_ _ | refine blk_drew ?_ | refine blk_alloc ?_ _)); refine blk_far ?_ NB146_170.out _; (with_reducible repeat (first | refine blk_drewN ?_ _ | refine blk_drew ?_ | refine blk_alloc ?_ _)); refine blk_far ?_ NB146_170.out _; (with_reducible repeat (first | refine blk_drewN ?_ _ | refine blk_drew ?_ | refine blk_alloc ?_ _)); refine blk_far ?_ NB146_170.out _; (with_reducible repeat (first | refine blk_drewN ?_ _ | refine blk_drew ?_ | refine blk_alloc ?_ _)); refine blk_far ?_ NB146_170.out _; (with_reducible repeat (first | refine blk_drewN ?_ _ | refine blk_drew ?_ | refine blk_alloc ?_ _)); refine blk_far ?_ NB146_170.out _; (with_reducible repeat (first | refine blk_drewN ?_ _ | refine blk_drew ?_ | refine blk_alloc ?_ _)); refine blk_far ?_ NB146_170.out _; (with_reducible repeat (first | refine blk_drewN ?_ _ | refine blk_drew ?_ | refine blk_alloc ?_ _)); refine blk_far ?_ NB146_170.out _; (with_reducible repeat (first | refine blk_drewN ?_ _ | refine blk_drew ?_ | refine blk_alloc ?_ _)); refine blk_far ?_ NB146_170.out _; (with_reducible repeat (first | refine blk_drewN ?_ _ | refine blk_drew ?_ | refine blk_alloc ?_ _)); refine blk_far ?_ NB146_170.out _; (with_reducible repeat (first | refine blk_drewN ?_ _ | refine blk_drew ?_ | refine blk_alloc ?_ _)); exact BK146.out⟩
                                      have n1_ : Aside0 ((((((((((w51.setCell ⟨gb170, 0, none⟩ (.int .i64 t160)).setCell ⟨gb170, 1, none⟩ (.int .i64 t161)).setCell ⟨gb170, 2, none⟩ (.bool t162)).setCell ⟨gb170, 3, none⟩ (.int .i64 t163)).setCell ⟨gb170, 4, none⟩ (.int .i64 t164)).setCell ⟨gb170, 5, none⟩ (.int .i64 t165)).setCell ⟨gb170, 6, none⟩ (.bool t166)).setCell ⟨gb170, 7, none⟩ (.int .i64 t167)).setCell ⟨gb170, 8, none⟩ (.int .i64 t168)).heap[gb157]? = some (.cells #[.int .i64 t147, .int .i64 t148, .bool t149, .int .i64 t150, .int .i64 t151, .int .i64 t152, .bool t153, .int .i64 t154, .int .i64 t155] 24 (0, 0))) := ⟨by (with_reducible repeat (first | refine blk_drewN ?_ _ | refine blk_drew ?_ | refine blk_alloc ?_ _)); refine blk_far ?_ NB157_170.out _; (with_reducible repeat (first | refine blk_drewN ?_ _ | refine blk_drew ?_ | refine blk_alloc ?_ _)); refine blk_far ?_ NB157_170.out _; (with_reducible repeat (first | refine blk_drewN ?_ _ | refine blk_drew ?_ | refine blk_alloc ?_ _)); refine blk_far ?_ NB157_170.out _; (with_reducible repeat (first | refine blk_drewN ?_ _ | refine blk_drew ?_ | refine blk_alloc ?_ _)); refine blk_far ?_ NB157_170.out _; (with_reducible repeat (first | refine blk_drewN ?_ _ | refine blk_drew ?_ | refine blk_alloc ?_ _)); refine blk_far ?_ NB157_170.out _; (with_reducible repeat (first | refine blk_drewN ?_ _ | refine blk_drew ?_ | refine blk_alloc ?_ _)); refine blk_far ?_ NB157_170.out _; (with_reducible repeat (first | refine blk_drewN ?_ _ | refine blk_drew ?_ | refine blk_alloc ?_ _)); refine blk_far ?_ NB157_170.out _; (with_reducible repeat (first | refine blk_drewN ?_ _ | refine blk_drew ?_ | refine blk_alloc ?_ _)); refine blk_far ?_ NB157_170.out _; (with_reducible repeat (first | refine blk_drewN ?_ _ | refine blk_drew ?_ | refine blk_alloc ?_ _)); refine blk_far ?_ NB157_170.out _; (with_reducible repeat (first | refine blk_drewN ?_ _ | refine blk_drew ?_ | refine blk_alloc ?_ _)); exact BK157.out⟩
                                      have n2_ : Aside0 ((((((((((w51.setCell ⟨gb170, 0, none⟩ (.int .i64 t160)).setCell ⟨gb170, 1, none⟩ (.int .i64 t161)).setCell ⟨gb170, 2, none⟩ (.bool t162)).setCell ⟨gb170, 3, none⟩ (.int .i64 t163)).setCell ⟨gb170, 4, none⟩ (.int .i64 t164)).setCell ⟨gb170, 5, none⟩ (.int .i64 t165)).setCell ⟨gb170, 6, none⟩ (.bool t166)).setCell ⟨gb170, 7, none⟩ (.int .i64 t167)).setCell ⟨gb170, 8, none⟩ (.int .i64 t168)).heap[gb170]? = some (.cells #[.int .i64 t160, .int .i64 t161, .bool t162, .int .i64 t163, .int .i64 t164, .int .i64 t165, .bool t166, .int .i64 t167, .int .i64 t168] 24 (0, 0))) := ⟨by (with_reducible repeat (first | refine blk_drewN ?_ _ | refine blk_drew ?_ | refine blk_alloc ?_ _)); refine blk_put (cs := #[.int .i64 t160, .int .i64 t161, .bool t162, .int .i64 t163, .int .i64 t164, .int .i64 t165, .bool t166, .int .i64 t167, .int .i64 0]) ?_ 8 _ rfl; (with_reducible repeat (first | refine blk_drewN ?_ _ | refine blk_drew ?_ | refine blk_alloc ?_ _)); refine blk_put (cs := #[.int .i64 t160, .int .i64 t161, .bool t162, .int .i64 t163, .int .i64 t164, .int .i64 t165, .bool t166, .int .i64 0, .int .i64 0]) ?_ 7 _ rfl; (with_reducible repeat (first | refine blk_drewN ?_ _ | refine blk_drew ?_ | refine blk_alloc ?_ _)); refine blk_put (cs := #[.int .i64 t160, .int .i64 t161, .bool t162, .int .i64 t163, .int .i64 t164, .int .i64 t165, .bool false, .int .i64 0, .int .i64 0]) ?_ 6 _ rfl; (with_reducible repeat (first | refine blk_drewN ?_ _ | refine blk_drew ?_ | refine blk_alloc ?_ _)); refine blk_put (cs := #[.int .i64 t160, .int .i64 t161, .bool t162, .int .i64 t163, .int .i64 t164, .int .i64 0, .bool false, .int .i64 0, .int .i64 0]) ?_ 5 _ rfl; (with_reducible repeat (first | refine blk_drewN ?_ _ | refine blk_drew ?_ | refine blk_alloc ?_ _)); refine blk_put (cs := #[.int .i64 t160, .int .i64 t161, .bool t162, .int .i64 t163, .int .i64 0, .int .i64 0, .bool false, .int .i64 0, .int .i64 0]) ?_ 4 _ rfl; (with_reducible repeat (first | refine blk_drewN ?_ _ | refine blk_drew ?_ | refine blk_alloc ?_ _)); refine blk_put (cs := #[.int .i64 t160, .int .i64 t161, .bool t162, .int .i64 0, .int .i64 0, .int .i64 0, .bool false, .int .i64 0, .int .i64 0]) ?_ 3 _ rfl; (with_reducible repeat (first | refine blk_drewN ?_ _ | refine blk_drew ?_ | refine blk_alloc ?_ _)); refine blk_put (cs := #[.int .i64 t160, .int .i64 t161, .bool false, .int .i64 0, .int .i64 0, .int .i64 0, .bool false, .int .i64 0, .int .i64 0]) ?_ 2 _ rfl; (with_reducible repeat (first | refine blk_drewN ?_ _ | refine blk_drew ?_ | refine blk_alloc ?_ _)); refine blk_put (cs := #[.int .i64 t160, .int .i64 0, .bool false, .int .i64 0, .int .i64 0, .int .i64 0, .bool false, .int .i64 0, .int .i64 0]) ?_ 1 _ rfl; (with_reducible repeat (first | refine blk_drewN ?_ _ | refine blk_drew ?_ | refine blk_alloc ?_ _)); refine blk_put (cs := #[.int .i64 0, .int .i64 0, .bool false, .int .i64 0, .int .i64 0, .int .i64 0, .bool false, .int .i64 0, .int .i64 0]) ?_ 0 _ rfl; (with_reducible repeat (first | refine blk_drewN ?_ _ | refine blk_drew ?_ | refine blk_alloc ?_ _)); exact BK170.out⟩
                                      have n3_ : Aside0 (Below w.heap.size w (((((((((w51.setCell ⟨gb170, 0, none⟩ (.int .i64 t160)).setCell ⟨gb170, 1, none⟩ (.int .i64 t161)).setCell ⟨gb170, 2, none⟩ (.bool t162)).setCell ⟨gb170, 3, none⟩ (.int .i64 t163)).setCell ⟨gb170, 4, none⟩ (.int .i64 t164)).setCell ⟨gb170, 5, none⟩ (.int .i64 t165)).setCell ⟨gb170, 6, none⟩ (.bool t166)).setCell ⟨gb170, 7, none⟩ (.int .i64 t167)).setCell ⟨gb170, 8, none⟩ (.int .i64 t168))) := ⟨by repeat (first | (with_reducible first | exact HB.out | apply below_alloc | apply pw_below_drewN | apply below_drew1 | refine below_set ?_ GE146.out | refine below_set ?_ GE157.out | refine below_set ?_ GE170.out) | exact HB.out)⟩
                                      (try clear BK146)
                                      (try clear BK157)
                                      (try clear BK170)
                                      (try clear HB)
                                      generalize (((((((((w51.setCell ⟨gb170, 0, none⟩ (.int .i64 t160)).setCell ⟨gb170, 1, none⟩ (.int .i64 t161)).setCell ⟨gb170, 2, none⟩ (.bool t162)).setCell ⟨gb170, 3, none⟩ (.int .i64 t163)).setCell ⟨gb170, 4, none⟩ (.int .i64 t164)).setCell ⟨gb170, 5, none⟩ (.int .i64 t165)).setCell ⟨gb170, 6, none⟩ (.bool t166)).setCell ⟨gb170, 7, none⟩ (.int .i64 t167)).setCell ⟨gb170, 8, none⟩ (.int .i64 t168)) = w55 at n0_ n1_ n2_ n3_ ⊢
                                      have BK146 := n0_
                                      have BK157 := n1_
                                      have BK170 := n2_
                                      have HB := n3_
                                      clear n0_ n1_ n2_ n3_
                                      have n0_ := Aside0.mk (blk_drew BK146.out)
                                      have n1_ := Aside0.mk (blk_drew BK157.out)
                                      have n2_ := Aside0.mk (blk_drew BK170.out)
                                      have n3_ := Aside0.mk (below_drew1 HB.out)
                                      clear BK146
                                      clear BK157
                                      clear BK170
                                      clear HB
                                      have BK146 := n0_
                                      have BK157 := n1_
                                      have BK170 := n2_
                                      have HB := n3_
                                      clear n0_ n1_ n2_ n3_
                                      refine start_ (n := 54) (S := fun w' => w'.cell? ⟨gb157, 0, none⟩ = some (.int .i64 t147) ∧ w'.cell? ⟨gb157, 1, none⟩ = some (.int .i64 t148) ∧ w'.cell? ⟨gb157, 2, none⟩ = some (.bool t149) ∧ w'.cell? ⟨gb157, 3, none⟩ = some (.int .i64 t150) ∧ w'.cell? ⟨gb157, 4, none⟩ = some (.int .i64 t151) ∧ w'.cell? ⟨gb157, 5, none⟩ = some (.int .i64 t152) ∧ w'.cell? ⟨gb157, 6, none⟩ = some (.bool t153) ∧ w'.cell? ⟨gb157, 7, none⟩ = some (.int .i64 t154) ∧ w'.cell? ⟨gb157, 8, none⟩ = some (.int .i64 t155) ∧ w'.cell? ⟨gb146, 0, none⟩ = some (.int .i64 ((rd_T29 l0 x3_1).f0.f0)) ∧ w'.cell? ⟨gb146, 1, none⟩ = some (.int .i64 ((rd_T29 l0 x3_1).f0.f1)) ∧ w'.cell? ⟨gb146, 2, none⟩ = some (.bool ((rd_T29 l0 x3_1).f0.f2)) ∧ w'.cell? ⟨gb146, 3, none⟩ = some (.int .i64 ((rd_T29 l0 x3_1).f0.f3)) ∧ w'.cell? ⟨gb146, 4, none⟩ = some (.int .i64 ((rd_T29 l0 x3_1).f0.f4)) ∧ w'.cell? ⟨gb146, 5, none⟩ = some (.int .i64 ((rd_T29 l0 x3_1).f0.f5)) ∧ w'.cell? ⟨gb146, 6, none⟩ = some (.bool ((rd_T29 l0 x3_1).f0.f6)) ∧ w'.cell? ⟨gb146, 7, none⟩ = some (.int .i64 ((rd_T29 l0 x3_1).f0.f7)) ∧ w'.cell? ⟨gb146, 8, none⟩ = some (.int .i64 ((rd_T29 l0 x3_1).f0.f8)) ∧ w'.cell? ⟨gb146, 9, none⟩ = some (.bool ((rd_T29 l0 x3_1).f1)) ∧ w'.cell? ⟨gb146, 10, none⟩ = some (.int .i64 ((rd_T29 l0 x3_1).f2)) ∧ w'.cell? ⟨gb146, 11, none⟩ = some (.int .i64 ((rd_T29 l0 x3_1).f3.f0)) ∧ w'.cell? ⟨gb146, 12, none⟩ = some (.slice A145_12 ((rd_T29 l0 x3_1).f3.f1).length c145_12) ∧ w'.cell? ⟨gb170, 0, none⟩ = some (.int .i64 t160) ∧ w'.cell? ⟨gb170, 1, none⟩ = some (.int .i64 t161) ∧ w'.cell? ⟨gb170, 2, none⟩ = some (.bool t162) ∧ w'.cell? ⟨gb170, 3, none⟩ = some (.int .i64 t163) ∧ w'.cell? ⟨gb170, 4, none⟩ = some (.int .i64 t164) ∧ w'.cell? ⟨gb170, 5, none⟩ = some (.int .i64 t165) ∧ w'.cell? ⟨gb170, 6, none⟩ = some (.bool t166) ∧ w'.cell? ⟨gb170, 7, none⟩ = some (.int .i64 t167) ∧ w'.cell? ⟨gb170, 8, none⟩ = some (.int .i64 t168)) (ds := []) #[false, false, false, false, false, false, false, false, false, false, false, false, false, false, false, false, false, false, false, false, false, false, false, false, false, false, false, false, false, false, false, false, false, false, false, false, false, false, false, false, false, false, false, false, false, false, false, false, false, false, false, false, false, false] (by kernel_rfl) rfl rfl ⟨(blk_cell BK157.out 0).trans rfl, (blk_cell BK157.out 1).trans rfl, (blk_cell BK157.out 2).trans rfl, (blk_cell BK157.out 3).trans rfl, (blk_cell BK157.out 4).trans rfl, (blk_cell BK157.out 5).trans rfl, (blk_cell BK157.out 6).trans rfl, (blk_cell BK157.out 7).trans rfl, (blk_cell BK157.out 8).trans rfl, (blk_cell BK146.out 0).trans rfl, (blk_cell BK146.out 1).trans rfl, (blk_cell BK146.out 2).trans rfl, (blk_cell BK146.out 3).trans rfl, (blk_cell BK146.out 4).trans rfl, (blk_cell BK146.out 5).trans rfl, (blk_cell BK146.out 6).trans rfl, (blk_cell BK146.out 7).trans rfl, (blk_cell BK146.out 8).trans rfl, (blk_cell BK146.out 9).trans rfl, (blk_cell BK146.out 10).trans rfl, (blk_cell BK146.out 11).trans rfl, (blk_cell BK146.out 12).trans rfl, (blk_cell BK170.out 0).trans rfl, (blk_cell BK170.out 1).trans rfl, (blk_cell BK170.out 2).trans rfl, (blk_cell BK170.out 3).trans rfl, (blk_cell BK170.out 4).trans rfl, (blk_cell BK170.out 5).trans rfl, (blk_cell BK170.out 6).trans rfl, (blk_cell BK170.out 7).trans rfl, (blk_cell BK170.out 8).trans rfl⟩ (fun hHeld => ?_); refine with_tabW gimballaw9_DrvSets.tab10 gimballaw9_DrvSets.bits10 (fun HT_ HW_ => ?_)
                                      generalize w55.drew = w56 at BK146 BK157 BK170 HB hHeld ⊢
                                      refine pure_ (i := 0) (N := some 64) (v := ?_) (a' := ?_) #[true, false, false, false, false, false, false, false, false, false, false, false, false, false, false, false, false, false, false, false, false, false, false, false, false, false, false, false, false, false, false, false, false, false, false, false, false, false, false, false, false, false, false, false, false, false, false, false, false, false, false, false, false, false] rfl rfl (any_of HT_.out (by kernel_rfl)) (fun _ _ _ h => h) (Or.inl ⟨by rfl, ?_⟩) ?_ ?_
                                      rotate_left
                                      · intro w'
                                        go_simp
                                        with_reducible rfl
                                      rotate_left
                                      · simp only [Act.put, List.setIfInBounds_toArray, List.set_cons_zero, List.set_cons_succ, i64_w, i32_w]
                                        rfl
                                      refine one_ (i := 1) (N := some 65) #[true, true, false, false, false, false, false, false, false, false, false, false, false, false, false, false, false, false, false, false, false, false, false, false, false, false, false, false, false, false, false, false, false, false, false, false, false, false, false, false, false, false, false, false, false, false, false, false, false, false, false, false, false, false] rfl rfl (one_of HT_.out (by kernel_rfl)) (by decide) (fun K hK => ?_)
                                      refine goes_ Try.func11 (by kernel_rfl) rfl #[.int .i64 t156] (by rfl) rfl rfl (by (try simp only [List.map_toArray, List.map_cons, List.map_nil]); first | done | rfl | (simp only [List.length_drop, List.length_take]; rfl)) ?_
                                      with_reducible refine (gimballaw9_num.calls t156 t171 _ A36.out).mono ?_
                                      rintro e w' ⟨rfl, ⟨nd, rfl⟩⟩
                                      refine ⟨_, rfl, ?_⟩
                                      refine hK.out _ _ ⟨(blk_cell BK157.out 0).trans rfl, (blk_cell BK157.out 1).trans rfl, (blk_cell BK157.out 2).trans rfl, (blk_cell BK157.out 3).trans rfl, (blk_cell BK157.out 4).trans rfl, (blk_cell BK157.out 5).trans rfl, (blk_cell BK157.out 6).trans rfl, (blk_cell BK157.out 7).trans rfl, (blk_cell BK157.out 8).trans rfl, (blk_cell BK146.out 0).trans rfl, (blk_cell BK146.out 1).trans rfl, (blk_cell BK146.out 2).trans rfl, (blk_cell BK146.out 3).trans rfl, (blk_cell BK146.out 4).trans rfl, (blk_cell BK146.out 5).trans rfl, (blk_cell BK146.out 6).trans rfl, (blk_cell BK146.out 7).trans rfl, (blk_cell BK146.out 8).trans rfl, (blk_cell BK146.out 9).trans rfl, (blk_cell BK146.out 10).trans rfl, (blk_cell BK146.out 11).trans rfl, (blk_cell BK146.out 12).trans rfl, (blk_cell BK170.out 0).trans rfl, (blk_cell BK170.out 1).trans rfl, (blk_cell BK170.out 2).trans rfl, (blk_cell BK170.out 3).trans rfl, (blk_cell BK170.out 4).trans rfl, (blk_cell BK170.out 5).trans rfl, (blk_cell BK170.out 6).trans rfl, (blk_cell BK170.out 7).trans rfl, (blk_cell BK170.out 8).trans rfl⟩ (fun hHeld => ?_)
                                      clear hK K
                                      refine norm_ (a' := ?_) ?_ ?_
                                      rotate_left
                                      · show Act.put _ (some 65) _ = _
                                        simp only [Act.put, List.setIfInBounds_toArray, List.set_cons_zero, List.set_cons_succ, i64_w, i32_w]
                                        rfl
                                      refine pure_ (i := 2) (N := some 66) (v := ?_) (a' := ?_) #[true, true, true, false, false, false, false, false, false, false, false, false, false, false, false, false, false, false, false, false, false, false, false, false, false, false, false, false, false, false, false, false, false, false, false, false, false, false, false, false, false, false, false, false, false, false, false, false, false, false, false, false, false, false] rfl rfl (any_of HT_.out (by kernel_rfl)) (fun _ _ _ h => h) (Or.inl ⟨by rfl, ?_⟩) ?_ ?_
                                      rotate_left
                                      · intro w'
                                        go_simp
                                        with_reducible rfl
                                      rotate_left
                                      · simp only [Act.put, List.setIfInBounds_toArray, List.set_cons_zero, List.set_cons_succ, i64_w, i32_w]
                                        rfl
                                      refine pure_ (i := 3) (N := some 67) (v := ?_) (a' := ?_) #[true, true, true, true, false, false, false, false, false, false, false, false, false, false, false, false, false, false, false, false, false, false, false, false, false, false, false, false, false, false, false, false, false, false, false, false, false, false, false, false, false, false, false, false, false, false, false, false, false, false, false, false, false, false] rfl rfl (any_of HT_.out (by kernel_rfl)) (fun _ _ _ h => h) (Or.inl ⟨by rfl, ?_⟩) ?_ ?_
                                      rotate_left
                                      · intro w'
                                        go_simp
                                        with_reducible rfl
                                      rotate_left
                                      · simp only [Act.put, List.setIfInBounds_toArray, List.set_cons_zero, List.set_cons_succ, i64_w, i32_w]
                                        rfl
                                      refine pure_ (i := 4) (N := some 68) (v := ?_) (a' := ?_) #[true, true, true, true, true, false, false, false, false, false, false, false, false, false, false, false, false, false, false, false, false, false, false, false, false, false, false, false, false, false, false, false, false, false, false, false, false, false, false, false, false, false, false, false, false, false, false, false, false, false, false, false, false, false] rfl rfl (any_of HT_.out (by kernel_rfl)) (fun _ _ _ h => h) (Or.inl ⟨by rfl, ?_⟩) ?_ ?_
                                      rotate_left
                                      · intro w'
                                        go_simp
                                        with_reducible rfl
                                      rotate_left
                                      · simp only [Act.put, List.setIfInBounds_toArray, List.set_cons_zero, List.set_cons_succ, i64_w, i32_w]
                                        rfl
                                      refine one_ (i := 5) (N := some 69) #[true, true, true, true, true, true, false, false, false, false, false, false, false, false, false, false, false, false, false, false, false, false, false, false, false, false, false, false, false, false, false, false, false, false, false, false, false, false, false, false, false, false, false, false, false, false, false, false, false, false, false, false, false, false] rfl rfl (one_of HT_.out (by kernel_rfl)) (by decide) (fun K hK => ?_)
                                      refine goes_ Try.func11 (by kernel_rfl) rfl #[.int .i64 t169] (by rfl) rfl rfl (by (try simp only [List.map_toArray, List.map_cons, List.map_nil]); first | done | rfl | (simp only [List.length_drop, List.length_take]; rfl)) ?_
                                      with_reducible refine (gimballaw9_num.calls t169 t172 _ A38.out).mono ?_
                                      rintro e w' ⟨rfl, ⟨nd, rfl⟩⟩
                                      refine ⟨_, rfl, ?_⟩
                                      refine hK.out _ _ ⟨(blk_cell BK157.out 0).trans rfl, (blk_cell BK157.out 1).trans rfl, (blk_cell BK157.out 2).trans rfl, (blk_cell BK157.out 3).trans rfl, (blk_cell BK157.out 4).trans rfl, (blk_cell BK157.out 5).trans rfl, (blk_cell BK157.out 6).trans rfl, (blk_cell BK157.out 7).trans rfl, (blk_cell BK157.out 8).trans rfl, (blk_cell BK146.out 0).trans rfl, (blk_cell BK146.out 1).trans rfl, (blk_cell BK146.out 2).trans rfl, (blk_cell BK146.out 3).trans rfl, (blk_cell BK146.out 4).trans rfl, (blk_cell BK146.out 5).trans rfl, (blk_cell BK146.out 6).trans rfl, (blk_cell BK146.out 7).trans rfl, (blk_cell BK146.out 8).trans rfl, (blk_cell BK146.out 9).trans rfl, (blk_cell BK146.out 10).trans rfl, (blk_cell BK146.out 11).trans rfl, (blk_cell BK146.out 12).trans rfl, (blk_cell BK170.out 0).trans rfl, (blk_cell BK170.out 1).trans rfl, (blk_cell BK170.out 2).trans rfl, (blk_cell BK170.out 3).trans rfl, (blk_cell BK170.out 4).trans rfl, (blk_cell BK170.out 5).trans rfl, (blk_cell BK170.out 6).trans rfl, (blk_cell BK170.out 7).trans rfl, (blk_cell BK170.out 8).trans rfl⟩ (fun hHeld => ?_)
                                      clear hK K
                                      refine norm_ (a' := ?_) ?_ ?_
                                      rotate_left
                                      · show Act.put _ (some 69) _ = _
                                        simp only [Act.put, List.setIfInBounds_toArray, List.set_cons_zero, List.set_cons_succ, i64_w, i32_w]
                                        rfl
                                      refine pure_ (i := 6) (N := some 70) (v := ?_) (a' := ?_) #[true, true, true, true, true, true, true, false, false, false, false, false, false, false, false, false, false, false, false, false, false, false, false, false, false, false, false, false, false, false, false, false, false, false, false, false, false, false, false, false, false, false, false, false, false, false, false, false, false, false, false, false, false, false] rfl rfl (any_of HT_.out (by kernel_rfl)) (fun _ _ _ h => h) (Or.inl ⟨by rfl, ?_⟩) ?_ ?_
                                      rotate_left
                                      · intro w'
                                        go_simp
                                        with_reducible rfl
                                      rotate_left
                                      · simp only [Act.put, List.setIfInBounds_toArray, List.set_cons_zero, List.set_cons_succ, i64_w, i32_w]
                                        rfl
                                      refine pure_ (i := 7) (N := some 71) (v := ?_) (a' := ?_) #[true, true, true, true, true, true, true, true, false, false, false, false, false, false, false, false, false, false, false, false, false, false, false, false, false, false, false, false, false, false, false, false, false, false, false, false, false, false, false, false, false, false, false, false, false, false, false, false, false, false, false, false, false, false] rfl rfl (any_of HT_.out (by kernel_rfl)) (fun _ _ _ h => h) (Or.inl ⟨by rfl, ?_⟩) ?_ ?_
                                      rotate_left
                                      · intro w'
                                        go_simp
                                        with_reducible rfl
                                      rotate_left
                                      · simp only [Act.put, List.setIfInBounds_toArray, List.set_cons_zero, List.set_cons_succ, i64_w, i32_w]
                                        rfl
                                      refine pure_ (i := 8) (N := some 72) (v := ?_) (a' := ?_) #[true, true, true, true, true, true, true, true, true, false, false, false, false, false, false, false, false, false, false, false, false, false, false, false, false, false, false, false, false, false, false, false, false, false, false, false, false, false, false, false, false, false, false, false, false, false, false, false, false, false, false, false, false, false] rfl rfl (any_of HT_.out (by kernel_rfl)) (fun _ _ _ h => h) (Or.inl ⟨by rfl, ?_⟩) ?_ ?_
                                      rotate_left
                                      · intro w'
                                        go_simp
                                        with_reducible rfl
                                      rotate_left
                                      · simp only [Act.put, List.setIfInBounds_toArray, List.set_cons_zero, List.set_cons_succ, i64_w, i32_w]
                                        rfl
                                      refine pure_ (i := 10) (N := some 74) (v := ?_) (a' := ?_) #[true, true, true, true, true, true, true, true, true, false, true, false, false, false, false, false, false, false, false, false, false, false, false, false, false, false, false, false, false, false, false, false, false, false, false, false, false, false, false, false, false, false, false, false, false, false, false, false, false, false, false, false, false, false] rfl rfl (any_of HT_.out (by kernel_rfl)) (fun _ _ _ h => h) (Or.inl ⟨by rfl, ?_⟩) ?_ ?_
                                      rotate_left
                                      · intro w'
                                        go_simp
                                        with_reducible rfl
                                      rotate_left
                                      · simp only [Act.put, List.setIfInBounds_toArray, List.set_cons_zero, List.set_cons_succ, i64_w, i32_w]
                                        rfl
                                      refine pure_ (i := 12) (N := some 76) (v := ?_) (a' := ?_) #[true, true, true, true, true, true, true, true, true, false, true, false, true, false, false, false, false, false, false, false, false, false, false, false, false, false, false, false, false, false, false, false, false, false, false, false, false, false, false, false, false, false, false, false, false, false, false, false, false, false, false, false, false, false] rfl rfl (any_of HT_.out (by kernel_rfl)) (fun _ _ _ h => h) (Or.inl ⟨by rfl, ?_⟩) ?_ ?_
                                      rotate_left
                                      · intro w'
                                        go_simp
                                        with_reducible rfl
                                      rotate_left
                                      · simp only [Act.put, List.setIfInBounds_toArray, List.set_cons_zero, List.set_cons_succ, i64_w, i32_w]
                                        rfl
                                      refine pure_ (i := 14) (N := some 78) (v := ?_) (a' := ?_) #[true, true, true, true, true, true, true, true, true, false, true, false, true, false, true, false, false, false, false, false, false, false, false, false, false, false, false, false, false, false, false, false, false, false, false, false, false, false, false, false, false, false, false, false, false, false, false, false, false, false, false, false, false, false] rfl rfl (any_of HT_.out (by kernel_rfl)) (fun _ _ _ h => h) (Or.inl ⟨by rfl, ?_⟩) ?_ ?_
                                      rotate_left
                                      · intro w'
                                        go_simp
                                        with_reducible rfl
                                      rotate_left
                                      · simp only [Act.put, List.setIfInBounds_toArray, List.set_cons_zero, List.set_cons_succ, i64_w, i32_w]
                                        rfl
                                      refine take_ (i := 9) (N := some 73) (v := ?_) (a' := ?_) #[true, true, true, true, true, true, true, true, true, true, true, false, true, false, true, false, false, false, false, false, false, false, false, false, false, false, false, false, false, false, false, false, false, false, false, false, false, false, false, false, false, false, false, false, false, false, false, false, false, false, false, false, false, false] rfl rfl (take_ofW HT_.out HW_.out (by kernel_rfl)) (fun _ _ _ h => h) (Or.inl ⟨by rfl, ?_⟩) hHeld ?_ ?_
                                      rotate_left
                                      · rintro w' ⟨s0, s1, s2, s3, s4, s5, s6, s7, s8, s9, s10, s11, s12, s13, s14, s15, s16, s17, s18, s19, s20, s21, s22, s23, s24, s25, s26, s27, s28, s29, s30⟩
                                        go_simp
                                        with_reducible rfl
                                      rotate_left
                                      · simp only [Act.put, List.setIfInBounds_toArray, List.set_cons_zero, List.set_cons_succ, i64_w, i32_w]
                                        rfl
                                      refine take_ (i := 11) (N := some 75) (v := ?_) (a' := ?_) #[true, true, true, true, true, true, true, true, true, true, true, true, true, false, true, false, false, false, false, false, false, false, false, false, false, false, false, false, false, false, false, false, false, false, false, false, false, false, false, false, false, false, false, false, false, false, false, false, false, false, false, false, false, false] rfl rfl (take_ofW HT_.out HW_.out (by kernel_rfl)) (fun _ _ _ h => h) (Or.inl ⟨by rfl, ?_⟩) hHeld ?_ ?_
                                      rotate_left
                                      · rintro w' ⟨s0, s1, s2, s3, s4, s5, s6, s7, s8, s9, s10, s11, s12, s13, s14, s15, s16, s17, s18, s19, s20, s21, s22, s23, s24, s25, s26, s27, s28, s29, s30⟩
                                        go_simp
                                        with_reducible rfl
                                      rotate_left
                                      · simp only [Act.put, List.setIfInBounds_toArray, List.set_cons_zero, List.set_cons_succ, i64_w, i32_w]
                                        rfl
                                      refine take_ (i := 13) (N := some 77) (v := ?_) (a' := ?_) #[true, true, true, true, true, true, true, true, true, true, true, true, true, true, true, false, false, false, false, false, false, false, false, false, false, false, false, false, false, false, false, false, false, false, false, false, false, false, false, false, false, false, false, false, false, false, false, false, false, false, false, false, false, false] rfl rfl (take_ofW HT_.out HW_.out (by kernel_rfl)) (fun _ _ _ h => h) (Or.inl ⟨by rfl, ?_⟩) hHeld ?_ ?_
                                      rotate_left
                                      · rintro w' ⟨s0, s1, s2, s3, s4, s5, s6, s7, s8, s9, s10, s11, s12, s13, s14, s15, s16, s17, s18, s19, s20, s21, s22, s23, s24, s25, s26, s27, s28, s29, s30⟩
                                        go_simp
                                        with_reducible rfl
                                      rotate_left
                                      · simp only [Act.put, List.setIfInBounds_toArray, List.set_cons_zero, List.set_cons_succ, i64_w, i32_w]
                                        rfl
                                      refine take_ (i := 15) (N := some 79) (v := ?_) (a' := ?_) #[true, true, true, true, true, true, true, true, true, true, true, true, true, true, true, true, false, false, false, false, false, false, false, false, false, false, false, false, false, false, false, false, false, false, false, false, false, false, false, false, false, false, false, false, false, false, false, false, false, false, false, false, false, false] rfl rfl (take_ofW HT_.out HW_.out (by kernel_rfl)) (fun _ _ _ h => h) (Or.inl ⟨by rfl, ?_⟩) hHeld ?_ ?_
                                      rotate_left
                                      · rintro w' ⟨s0, s1, s2, s3, s4, s5, s6, s7, s8, s9, s10, s11, s12, s13, s14, s15, s16, s17, s18, s19, s20, s21, s22, s23, s24, s25, s26, s27, s28, s29, s30⟩
                                        go_simp
                                        with_reducible rfl
                                      rotate_left
                                      · simp only [Act.put, List.setIfInBounds_toArray, List.set_cons_zero, List.set_cons_succ, i64_w, i32_w]
                                        rfl
                                      refine one_ (i := 16) (N := some 80) #[true, true, true, true, true, true, true, true, true, true, true, true, true, true, true, true, true, false, false, false, false, false, false, false, false, false, false, false, false, false, false, false, false, false, false, false, false, false, false, false, false, false, false, false, false, false, false, false, false, false, false, false, false, false] rfl rfl (one_of HT_.out (by kernel_rfl)) (by decide) (fun K hK => ?_)
                                      refine goes_ Try.func15 (by kernel_rfl) rfl #[.agg #[.int .i64 ((rd_T29 l0 x3_1).f0.f0), .int .i64 ((rd_T29 l0 x3_1).f0.f1), .bool ((rd_T29 l0 x3_1).f0.f2), .int .i64 ((rd_T29 l0 x3_1).f0.f3), .int .i64 ((rd_T29 l0 x3_1).f0.f4), .int .i64 ((rd_T29 l0 x3_1).f0.f5), .bool ((rd_T29 l0 x3_1).f0.f6), .int .i64 ((rd_T29 l0 x3_1).f0.f7), .int .i64 ((rd_T29 l0 x3_1).f0.f8)], .bool ((rd_T29 l0 x3_1).f1), .int .i64 ((rd_T29 l0 x3_1).f2)] (by rfl) rfl rfl (by (try simp only [List.map_toArray, List.map_cons, List.map_nil]); first | done | rfl | (simp only [List.length_drop, List.length_take]; rfl)) ?_
                                      with_reducible refine (gimbalref9_Set.calls ((rd_T29 l0 x3_1).f0.f0) ((rd_T29 l0 x3_1).f0.f1) ((rd_T29 l0 x3_1).f0.f2) ((rd_T29 l0 x3_1).f0.f3) ((rd_T29 l0 x3_1).f0.f4) ((rd_T29 l0 x3_1).f0.f5) ((rd_T29 l0 x3_1).f0.f6) ((rd_T29 l0 x3_1).f0.f7) ((rd_T29 l0 x3_1).f0.f8) ((rd_T29 l0 x3_1).f1) ((rd_T29 l0 x3_1).f2) t173 t174 t175 t176 t177 t178 t179 t180 t181 _ A40.out).mono ?_
                                      rintro e w57 ⟨rfl, hb⟩
                                      refine ⟨_, rfl, ?_⟩
                                      have n0_ := Aside0.mk (blk_below (g := gb146) (o := .cells #[.int .i64 ((rd_T29 l0 x3_1).f0.f0), .int .i64 ((rd_T29 l0 x3_1).f0.f1), .bool ((rd_T29 l0 x3_1).f0.f2), .int .i64 ((rd_T29 l0 x3_1).f0.f3), .int .i64 ((rd_T29 l0 x3_1).f0.f4), .int .i64 ((rd_T29 l0 x3_1).f0.f5), .bool ((rd_T29 l0 x3_1).f0.f6), .int .i64 ((rd_T29 l0 x3_1).f0.f7), .int .i64 ((rd_T29 l0 x3_1).f0.f8), .bool ((rd_T29 l0 x3_1).f1), .int .i64 ((rd_T29 l0 x3_1).f2), .int .i64 ((rd_T29 l0 x3_1).f3.f0), .slice A145_12 ((rd_T29 l0 x3_1).f3.f1).length c145_12] 29 (0, 0)) (by (with_reducible repeat (first | refine blk_drewN ?_ _ | refine blk_drew ?_ | refine blk_alloc ?_ _)); exact BK146.out) hb)
                                      have n1_ := Aside0.mk (blk_below (g := gb157) (o := .cells #[.int .i64 t147, .int .i64 t148, .bool t149, .int .i64 t150, .int .i64 t151, .int .i64 t152, .bool t153, .int .i64 t154, .int .i64 t155] 24 (0, 0)) (by (with_reducible repeat (first | refine blk_drewN ?_ _ | refine blk_drew ?_ | refine blk_alloc ?_ _)); exact BK157.out) hb)
                                      have n2_ := Aside0.mk (blk_below (g := gb170) (o := .cells #[.int .i64 t160, .int .i64 t161, .bool t162, .int .i64 t163, .int .i64 t164, .int .i64 t165, .bool t166, .int .i64 t167, .int .i64 t168] 24 (0, 0)) (by (with_reducible repeat (first | refine blk_drewN ?_ _ | refine blk_drew ?_ | refine blk_alloc ?_ _)); exact BK170.out) hb)
                                      have n3_ := Aside0.mk (below_step (by repeat (first | (with_reducible first | exact HB.out | apply below_alloc | apply pw_below_drewN | apply below_drew1 | refine below_set ?_ GE146.out | refine below_set ?_ GE157.out | refine below_set ?_ GE170.out) | exact HB.out)) hb)
                                      clear BK146
                                      clear BK157
                                      clear BK170
                                      clear HB
                                      have BK146 := n0_
                                      have BK157 := n1_
                                      have BK170 := n2_
                                      have HB := n3_
                                      clear n0_ n1_ n2_ n3_
                                      (try clear hb)
                                      (try clear hb2)
                                      (try clear hk)
                                      (try clear hi)
                                      refine hK.out _ _ ⟨(blk_cell BK157.out 0).trans rfl, (blk_cell BK157.out 1).trans rfl, (blk_cell BK157.out 2).trans rfl, (blk_cell BK157.out 3).trans rfl, (blk_cell BK157.out 4).trans rfl, (blk_cell BK157.out 5).trans rfl, (blk_cell BK157.out 6).trans rfl, (blk_cell BK157.out 7).trans rfl, (blk_cell BK157.out 8).trans rfl, (blk_cell BK146.out 0).trans rfl, (blk_cell BK146.out 1).trans rfl, (blk_cell BK146.out 2).trans rfl, (blk_cell BK146.out 3).trans rfl, (blk_cell BK146.out 4).trans rfl, (blk_cell BK146.out 5).trans rfl, (blk_cell BK146.out 6).trans rfl, (blk_cell BK146.out 7).trans rfl, (blk_cell BK146.out 8).trans rfl, (blk_cell BK146.out 9).trans rfl, (blk_cell BK146.out 10).trans rfl, (blk_cell BK146.out 11).trans rfl, (blk_cell BK146.out 12).trans rfl, (blk_cell BK170.out 0).trans rfl, (blk_cell BK170.out 1).trans rfl, (blk_cell BK170.out 2).trans rfl, (blk_cell BK170.out 3).trans rfl, (blk_cell BK170.out 4).trans rfl, (blk_cell BK170.out 5).trans rfl, (blk_cell BK170.out 6).trans rfl, (blk_cell BK170.out 7).trans rfl, (blk_cell BK170.out 8).trans rfl⟩ (fun hHeld => ?_)
                                      clear hK K
                                      refine norm_ (a' := ?_) ?_ ?_
                                      rotate_left
                                      · show Act.put _ (some 80) _ = _
                                        simp only [Act.put, List.setIfInBounds_toArray, List.set_cons_zero, List.set_cons_succ, i64_w, i32_w]
                                        rfl
                                      refine pure_ (i := 17) (N := some 81) (v := ?_) (a' := ?_) #[true, true, true, true, true, true, true, true, true, true, true, true, true, true, true, true, true, true, false, false, false, false, false, false, false, false, false, false, false, false, false, false, false, false, false, false, false, false, false, false, false, false, false, false, false, false, false, false, false, false, false, false, false, false] rfl rfl (any_of HT_.out (by kernel_rfl)) (fun _ _ _ h => h) (Or.inl ⟨by rfl, ?_⟩) ?_ ?_
                                      rotate_left
                                      · intro w'
                                        go_simp
                                        with_reducible rfl
                                      rotate_left
                                      · simp only [Act.put, List.setIfInBounds_toArray, List.set_cons_zero, List.set_cons_succ, i64_w, i32_w]
                                        rfl
                                      refine pure_ (i := 18) (N := some 82) (v := ?_) (a' := ?_) #[true, true, true, true, true, true, true, true, true, true, true, true, true, true, true, true, true, true, true, false, false, false, false, false, false, false, false, false, false, false, false, false, false, false, false, false, false, false, false, false, false, false, false, false, false, false, false, false, false, false, false, false, false, false] rfl rfl (any_of HT_.out (by kernel_rfl)) (fun _ _ _ h => h) (Or.inl ⟨by rfl, ?_⟩) ?_ ?_
                                      rotate_left
                                      · intro w'
                                        go_simp
                                        with_reducible rfl
                                      rotate_left
                                      · simp only [Act.put, List.setIfInBounds_toArray, List.set_cons_zero, List.set_cons_succ, i64_w, i32_w]
                                        rfl
                                      refine pure_ (i := 19) (N := some 83) (v := ?_) (a' := ?_) #[true, true, true, true, true, true, true, true, true, true, true, true, true, true, true, true, true, true, true, true, false, false, false, false, false, false, false, false, false, false, false, false, false, false, false, false, false, false, false, false, false, false, false, false, false, false, false, false, false, false, false, false, false, false] rfl rfl (any_of HT_.out (by kernel_rfl)) (fun _ _ _ h => h) (Or.inl ⟨by rfl, ?_⟩) ?_ ?_
                                      rotate_left
                                      · intro w'
                                        go_simp
                                        with_reducible rfl
                                      rotate_left
                                      · simp only [Act.put, List.setIfInBounds_toArray, List.set_cons_zero, List.set_cons_succ, i64_w, i32_w]
                                        rfl
                                      refine take_ (i := 20) (N := some 84) (v := ?_) (a' := ?_) #[true, true, true, true, true, true, true, true, true, true, true, true, true, true, true, true, true, true, true, true, true, false, false, false, false, false, false, false, false, false, false, false, false, false, false, false, false, false, false, false, false, false, false, false, false, false, false, false, false, false, false, false, false, false] rfl rfl (take_ofW HT_.out HW_.out (by kernel_rfl)) (fun _ _ _ h => h) (Or.inl ⟨by rfl, ?_⟩) hHeld ?_ ?_
                                      rotate_left
                                      · rintro w' ⟨s0, s1, s2, s3, s4, s5, s6, s7, s8, s9, s10, s11, s12, s13, s14, s15, s16, s17, s18, s19, s20, s21, s22, s23, s24, s25, s26, s27, s28, s29, s30⟩
                                        go_simp
                                        with_reducible rfl
                                      rotate_left
                                      · simp only [Act.put, List.setIfInBounds_toArray, List.set_cons_zero, List.set_cons_succ, i64_w, i32_w]
                                        rfl
                                      refine take_ (i := 21) (N := some 85) (v := ?_) (a' := ?_) #[true, true, true, true, true, true, true, true, true, true, true, true, true, true, true, true, true, true, true, true, true, true, false, false, false, false, false, false, false, false, false, false, false, false, false, false, false, false, false, false, false, false, false, false, false, false, false, false, false, false, false, false, false, false] rfl rfl (take_ofW HT_.out HW_.out (by kernel_rfl)) (fun _ _ _ h => h) (Or.inl ⟨by rfl, ?_⟩) hHeld ?_ ?_
                                      rotate_left
                                      · rintro w' ⟨s0, s1, s2, s3, s4, s5, s6, s7, s8, s9, s10, s11, s12, s13, s14, s15, s16, s17, s18, s19, s20, s21, s22, s23, s24, s25, s26, s27, s28, s29, s30⟩
                                        go_simp
                                        with_reducible rfl
                                      rotate_left
                                      · simp only [Act.put, List.setIfInBounds_toArray, List.set_cons_zero, List.set_cons_succ, i64_w, i32_w]
                                        rfl
                                      refine pure_ (i := 22) (N := some 86) (v := ?_) (a' := ?_) #[true, true, true, true, true, true, true, true, true, true, true, true, true, true, true, true, true, true, true, true, true, true, true, false, false, false, false, false, false, false, false, false, false, false, false, false, false, false, false, false, false, false, false, false, false, false, false, false, false, false, false, false, false, false] rfl rfl (any_of HT_.out (by kernel_rfl)) (fun _ _ _ h => h) (Or.inl ⟨by rfl, ?_⟩) ?_ ?_
                                      rotate_left
                                      · intro w'
                                        go_simp
                                        with_reducible rfl
                                      rotate_left
                                      · simp only [Act.put, List.setIfInBounds_toArray, List.set_cons_zero, List.set_cons_succ, i64_w, i32_w]
                                        rfl
                                      refine pure_ (i := 23) (N := some 87) (v := ?_) (a' := ?_) #[true, true, true, true, true, true, true, true, true, true, true, true, true, true, true, true, true, true, true, true, true, true, true, true, false, false, false, false, false, false, false, false, false, false, false, false, false, false, false, false, false, false, false, false, false, false, false, false, false, false, false, false, false, false] rfl rfl (any_of HT_.out (by kernel_rfl)) (fun _ _ _ h => h) (Or.inl ⟨by rfl, ?_⟩) ?_ ?_
                                      rotate_left
                                      · intro w'
                                        go_simp
                                        with_reducible rfl
                                      rotate_left
                                      · simp only [Act.put, List.setIfInBounds_toArray, List.set_cons_zero, List.set_cons_succ, i64_w, i32_w]
                                        rfl
                                      refine pure_ (i := 24) (N := some 88) (v := ?_) (a' := ?_) #[true, true, true, true, true, true, true, true, true, true, true, true, true, true, true, true, true, true, true, true, true, true, true, true, true, false, false, false, false, false, false, false, false, false, false, false, false, false, false, false, false, false, false, false, false, false, false, false, false, false, false, false, false, false] rfl rfl (any_of HT_.out (by kernel_rfl)) (fun _ _ _ h => h) (Or.inl ⟨by rfl, ?_⟩) ?_ ?_
                                      rotate_left
                                      · intro w'
                                        go_simp
                                        with_reducible rfl
                                      rotate_left
                                      · simp only [Act.put, List.setIfInBounds_toArray, List.set_cons_zero, List.set_cons_succ, i64_w, i32_w]
                                        rfl
                                      refine pure_ (i := 25) (N := some 89) (v := ?_) (a' := ?_) #[true, true, true, true, true, true, true, true, true, true, true, true, true, true, true, true, true, true, true, true, true, true, true, true, true, true, false, false, false, false, false, false, false, false, false, false, false, false, false, false, false, false, false, false, false, false, false, false, false, false, false, false, false, false] rfl rfl (any_of HT_.out (by kernel_rfl)) (fun _ _ _ h => h) (Or.inl ⟨by rfl, ?_⟩) ?_ ?_
                                      rotate_left
                                      · intro w'
                                        go_simp
                                        with_reducible rfl
                                      rotate_left
                                      · simp only [Act.put, List.setIfInBounds_toArray, List.set_cons_zero, List.set_cons_succ, i64_w, i32_w]
                                        rfl
                                      refine pure_ (i := 27) (N := some 91) (v := ?_) (a' := ?_) #[true, true, true, true, true, true, true, true, true, true, true, true, true, true, true, true, true, true, true, true, true, true, true, true, true, true, false, true, false, false, false, false, false, false, false, false, false, false, false, false, false, false, false, false, false, false, false, false, false, false, false, false, false, false] rfl rfl (any_of HT_.out (by kernel_rfl)) (fun _ _ _ h => h) (Or.inl ⟨by rfl, ?_⟩) ?_ ?_
                                      rotate_left
                                      · intro w'
                                        go_simp
                                        with_reducible rfl
                                      rotate_left
                                      · simp only [Act.put, List.setIfInBounds_toArray, List.set_cons_zero, List.set_cons_succ, i64_w, i32_w]
                                        rfl
                                      refine take_ (i := 26) (N := some 90) (v := ?_) (a' := ?_) #[true, true, true, true, true, true, true, true, true, true, true, true, true, true, true, true, true, true, true, true, true, true, true, true, true, true, true, true, false, false, false, false, false, false, false, false, false, false, false, false, false, false, false, false, false, false, false, false, false, false, false, false, false, false] rfl rfl (take_ofW HT_.out HW_.out (by kernel_rfl)) (fun _ _ _ h => h) (Or.inl ⟨by rfl, ?_⟩) hHeld ?_ ?_
                                      rotate_left
                                      · rintro w' ⟨s0, s1, s2, s3, s4, s5, s6, s7, s8, s9, s10, s11, s12, s13, s14, s15, s16, s17, s18, s19, s20, s21, s22, s23, s24, s25, s26, s27, s28, s29, s30⟩
                                        go_simp
                                        with_reducible rfl
                                      rotate_left
                                      · simp only [Act.put, List.setIfInBounds_toArray, List.set_cons_zero, List.set_cons_succ, i64_w, i32_w]
                                        rfl
                                      refine take_ (i := 28) (N := some 92) (v := ?_) (a' := ?_) #[true, true, true, true, true, true, true, true, true, true, true, true, true, true, true, true, true, true, true, true, true, true, true, true, true, true, true, true, true, false, false, false, false, false, false, false, false, false, false, false, false, false, false, false, false, false, false, false, false, false, false, false, false, false] rfl rfl (take_ofW HT_.out HW_.out (by kernel_rfl)) (fun _ _ _ h => h) (Or.inl ⟨by rfl, ?_⟩) hHeld ?_ ?_
                                      rotate_left
                                      · rintro w' ⟨s0, s1, s2, s3, s4, s5, s6, s7, s8, s9, s10, s11, s12, s13, s14, s15, s16, s17, s18, s19, s20, s21, s22, s23, s24, s25, s26, s27, s28, s29, s30⟩
                                        go_simp
                                        with_reducible rfl
                                      rotate_left
                                      · simp only [Act.put, List.setIfInBounds_toArray, List.set_cons_zero, List.set_cons_succ, i64_w, i32_w]
                                        rfl
                                      refine pure_ (i := 29) (N := some 93) (v := ?_) (a' := ?_) #[true, true, true, true, true, true, true, true, true, true, true, true, true, true, true, true, true, true, true, true, true, true, true, true, true, true, true, true, true, true, false, false, false, false, false, false, false, false, false, false, false, false, false, false, false, false, false, false, false, false, false, false, false, false] rfl rfl (any_of HT_.out (by kernel_rfl)) (fun _ _ _ h => h) (Or.inl ⟨by rfl, ?_⟩) ?_ ?_
                                      rotate_left
                                      · intro w'
                                        go_simp
                                        with_reducible rfl
                                      rotate_left
                                      · simp only [Act.put, List.setIfInBounds_toArray, List.set_cons_zero, List.set_cons_succ, i64_w, i32_w]
                                        rfl
                                      refine pure_ (i := 30) (N := some 94) (v := ?_) (a' := ?_) #[true, true, true, true, true, true, true, true, true, true, true, true, true, true, true, true, true, true, true, true, true, true, true, true, true, true, true, true, true, true, true, false, false, false, false, false, false, false, false, false, false, false, false, false, false, false, false, false, false, false, false, false, false, false] rfl rfl (any_of HT_.out (by kernel_rfl)) (fun _ _ _ h => h) (Or.inl ⟨by rfl, ?_⟩) ?_ ?_
                                      rotate_left
                                      · intro w'
                                        go_simp
                                        with_reducible rfl
                                      rotate_left
                                      · simp only [Act.put, List.setIfInBounds_toArray, List.set_cons_zero, List.set_cons_succ, i64_w, i32_w]
                                        rfl
                                      refine pure_ (i := 31) (N := some 95) (v := ?_) (a' := ?_) #[true, true, true, true, true, true, true, true, true, true, true, true, true, true, true, true, true, true, true, true, true, true, true, true, true, true, true, true, true, true, true, true, false, false, false, false, false, false, false, false, false, false, false, false, false, false, false, false, false, false, false, false, false, false] rfl rfl (any_of HT_.out (by kernel_rfl)) (fun _ _ _ h => h) (Or.inl ⟨by rfl, ?_⟩) ?_ ?_
                                      rotate_left
                                      · intro w'
                                        go_simp
                                        with_reducible rfl
                                      rotate_left
                                      · simp only [Act.put, List.setIfInBounds_toArray, List.set_cons_zero, List.set_cons_succ, i64_w, i32_w]
                                        rfl
                                      refine pure_ (i := 32) (N := some 96) (v := ?_) (a' := ?_) #[true, true, true, true, true, true, true, true, true, true, true, true, true, true, true, true, true, true, true, true, true, true, true, true, true, true, true, true, true, true, true, true, true, false, false, false, false, false, false, false, false, false, false, false, false, false, false, false, false, false, false, false, false, false] rfl rfl (any_of HT_.out (by kernel_rfl)) (fun _ _ _ h => h) (Or.inl ⟨by rfl, ?_⟩) ?_ ?_
                                      rotate_left
                                      · intro w'
                                        go_simp
                                        with_reducible rfl
                                      rotate_left
                                      · simp only [Act.put, List.setIfInBounds_toArray, List.set_cons_zero, List.set_cons_succ, i64_w, i32_w]
                                        rfl
                                      refine pure_ (i := 34) (N := some 98) (v := ?_) (a' := ?_) #[true, true, true, true, true, true, true, true, true, true, true, true, true, true, true, true, true, true, true, true, true, true, true, true, true, true, true, true, true, true, true, true, true, false, true, false, false, false, false, false, false, false, false, false, false, false, false, false, false, false, false, false, false, false] rfl rfl (any_of HT_.out (by kernel_rfl)) (fun _ _ _ h => h) (Or.inl ⟨by rfl, ?_⟩) ?_ ?_
                                      rotate_left
                                      · intro w'
                                        go_simp
                                        with_reducible rfl
                                      rotate_left
                                      · simp only [Act.put, List.setIfInBounds_toArray, List.set_cons_zero, List.set_cons_succ, i64_w, i32_w]
                                        rfl
                                      refine take_ (i := 33) (N := some 97) (v := ?_) (a' := ?_) #[true, true, true, true, true, true, true, true, true, true, true, true, true, true, true, true, true, true, true, true, true, true, true, true, true, true, true, true, true, true, true, true, true, true, true, false, false, false, false, false, false, false, false, false, false, false, false, false, false, false, false, false, false, false] rfl rfl (take_ofW HT_.out HW_.out (by kernel_rfl)) (fun _ _ _ h => h) (Or.inl ⟨by rfl, ?_⟩) hHeld ?_ ?_
                                      rotate_left
                                      · rintro w' ⟨s0, s1, s2, s3, s4, s5, s6, s7, s8, s9, s10, s11, s12, s13, s14, s15, s16, s17, s18, s19, s20, s21, s22, s23, s24, s25, s26, s27, s28, s29, s30⟩
                                        go_simp
                                        with_reducible rfl
                                      rotate_left
                                      · simp only [Act.put, List.setIfInBounds_toArray, List.set_cons_zero, List.set_cons_succ, i64_w, i32_w]
                                        rfl
                                      refine take_ (i := 35) (N := some 99) (v := ?_) (a' := ?_) #[true, true, true, true, true, true, true, true, true, true, true, true, true, true, true, true, true, true, true, true, true, true, true, true, true, true, true, true, true, true, true, true, true, true, true, true, false, false, false, false, false, false, false, false, false, false, false, false, false, false, false, false, false, false] rfl rfl (take_ofW HT_.out HW_.out (by kernel_rfl)) (fun _ _ _ h => h) (Or.inl ⟨by rfl, ?_⟩) hHeld ?_ ?_
                                      rotate_left
                                      · rintro w' ⟨s0, s1, s2, s3, s4, s5, s6, s7, s8, s9, s10, s11, s12, s13, s14, s15, s16, s17, s18, s19, s20, s21, s22, s23, s24, s25, s26, s27, s28, s29, s30⟩
                                        go_simp
                                        with_reducible rfl
                                      rotate_left
                                      · simp only [Act.put, List.setIfInBounds_toArray, List.set_cons_zero, List.set_cons_succ, i64_w, i32_w]
                                        rfl
                                      refine pure_ (i := 36) (N := some 100) (v := ?_) (a' := ?_) #[true, true, true, true, true, true, true, true, true, true, true, true, true, true, true, true, true, true, true, true, true, true, true, true, true, true, true, true, true, true, true, true, true, true, true, true, true, false, false, false, false, false, false, false, false, false, false, false, false, false, false, false, false, false] rfl rfl (any_of HT_.out (by kernel_rfl)) (fun _ _ _ h => h) (Or.inl ⟨by rfl, ?_⟩) ?_ ?_
                                      rotate_left
                                      · intro w'
                                        go_simp
                                        with_reducible rfl
                                      rotate_left
                                      · simp only [Act.put, List.setIfInBounds_toArray, List.set_cons_zero, List.set_cons_succ, i64_w, i32_w]
                                        rfl
                                      refine pure_ (i := 37) (N := some 101) (v := ?_) (a' := ?_) #[true, true, true, true, true, true, true, true, true, true, true, true, true, true, true, true, true, true, true, true, true, true, true, true, true, true, true, true, true, true, true, true, true, true, true, true, true, true, false, false, false, false, false, false, false, false, false, false, false, false, false, false, false, false] rfl rfl (any_of HT_.out (by kernel_rfl)) (fun _ _ _ h => h) (Or.inl ⟨by rfl, ?_⟩) ?_ ?_
                                      rotate_left
                                      · intro w'
                                        go_simp
                                        with_reducible rfl
                                      rotate_left
                                      · simp only [Act.put, List.setIfInBounds_toArray, List.set_cons_zero, List.set_cons_succ, i64_w, i32_w]
                                        rfl
                                      refine pure_ (i := 38) (N := some 102) (v := ?_) (a' := ?_) #[true, true, true, true, true, true, true, true, true, true, true, true, true, true, true, true, true, true, true, true, true, true, true, true, true, true, true, true, true, true, true, true, true, true, true, true, true, true, true, false, false, false, false, false, false, false, false, false, false, false, false, false, false, false] rfl rfl (any_of HT_.out (by kernel_rfl)) (fun _ _ _ h => h) (Or.inl ⟨by rfl, ?_⟩) ?_ ?_
                                      rotate_left
                                      · intro w'
                                        go_simp
                                        with_reducible rfl
                                      rotate_left
                                      · simp only [Act.put, List.setIfInBounds_toArray, List.set_cons_zero, List.set_cons_succ, i64_w, i32_w]
                                        rfl
                                      refine pure_ (i := 39) (N := some 103) (v := ?_) (a' := ?_) #[true, true, true, true, true, true, true, true, true, true, true, true, true, true, true, true, true, true, true, true, true, true, true, true, true, true, true, true, true, true, true, true, true, true, true, true, true, true, true, true, false, false, false, false, false, false, false, false, false, false, false, false, false, false] rfl rfl (any_of HT_.out (by kernel_rfl)) (fun _ _ _ h => h) (Or.inl ⟨by rfl, ?_⟩) ?_ ?_
                                      rotate_left
                                      · intro w'
                                        go_simp
                                        with_reducible rfl
                                      rotate_left
                                      · simp only [Act.put, List.setIfInBounds_toArray, List.set_cons_zero, List.set_cons_succ, i64_w, i32_w]
                                        rfl
                                      refine pure_ (i := 41) (N := some 105) (v := ?_) (a' := ?_) #[true, true, true, true, true, true, true, true, true, true, true, true, true, true, true, true, true, true, true, true, true, true, true, true, true, true, true, true, true, true, true, true, true, true, true, true, true, true, true, true, false, true, false, false, false, false, false, false, false, false, false, false, false, false] rfl rfl (any_of HT_.out (by kernel_rfl)) (fun _ _ _ h => h) (Or.inl ⟨by rfl, ?_⟩) ?_ ?_
                                      rotate_left
                                      · intro w'
                                        go_simp
                                        with_reducible rfl
                                      rotate_left
                                      · simp only [Act.put, List.setIfInBounds_toArray, List.set_cons_zero, List.set_cons_succ, i64_w, i32_w]
                                        rfl
                                      refine pure_ (i := 42) (N := some 106) (v := ?_) (a' := ?_) #[true, true, true, true, true, true, true, true, true, true, true, true, true, true, true, true, true, true, true, true, true, true, true, true, true, true, true, true, true, true, true, true, true, true, true, true, true, true, true, true, false, true, true, false, false, false, false, false, false, false, false, false, false, false] rfl rfl (any_of HT_.out (by kernel_rfl)) (fun _ _ _ h => h) (Or.inl ⟨by rfl, ?_⟩) ?_ ?_
                                      rotate_left
                                      · intro w'
                                        go_simp
                                        with_reducible rfl
                                      rotate_left
                                      · simp only [Act.put, List.setIfInBounds_toArray, List.set_cons_zero, List.set_cons_succ, i64_w, i32_w]
                                        rfl
                                      refine take_ (i := 40) (N := some 104) (v := ?_) (a' := ?_) #[true, true, true, true, true, true, true, true, true, true, true, true, true, true, true, true, true, true, true, true, true, true, true, true, true, true, true, true, true, true, true, true, true, true, true, true, true, true, true, true, true, true, true, false, false, false, false, false, false, false, false, false, false, false] rfl rfl (take_ofW HT_.out HW_.out (by kernel_rfl)) (fun _ _ _ h => h) (Or.inl ⟨by rfl, ?_⟩) hHeld ?_ ?_
                                      rotate_left
                                      · rintro w' ⟨s0, s1, s2, s3, s4, s5, s6, s7, s8, s9, s10, s11, s12, s13, s14, s15, s16, s17, s18, s19, s20, s21, s22, s23, s24, s25, s26, s27, s28, s29, s30⟩
                                        go_simp
                                        with_reducible rfl
                                      rotate_left
                                      · simp only [Act.put, List.setIfInBounds_toArray, List.set_cons_zero, List.set_cons_succ, i64_w, i32_w]
                                        rfl
                                      refine take_ (i := 43) (N := some 107) (v := ?_) (a' := ?_) #[true, true, true, true, true, true, true, true, true, true, true, true, true, true, true, true, true, true, true, true, true, true, true, true, true, true, true, true, true, true, true, true, true, true, true, true, true, true, true, true, true, true, true, true, false, false, false, false, false, false, false, false, false, false] rfl rfl (take_ofW HT_.out HW_.out (by kernel_rfl)) (fun _ _ _ h => h) (Or.inl ⟨by rfl, ?_⟩) hHeld ?_ ?_
                                      rotate_left
                                      · rintro w' ⟨s0, s1, s2, s3, s4, s5, s6, s7, s8, s9, s10, s11, s12, s13, s14, s15, s16, s17, s18, s19, s20, s21, s22, s23, s24, s25, s26, s27, s28, s29, s30⟩
                                        go_simp
                                        with_reducible rfl
                                      rotate_left
                                      · simp only [Act.put, List.setIfInBounds_toArray, List.set_cons_zero, List.set_cons_succ, i64_w, i32_w]
                                        rfl
                                      refine pure_ (i := 44) (N := some 108) (v := ?_) (a' := ?_) #[true, true, true, true, true, true, true, true, true, true, true, true, true, true, true, true, true, true, true, true, true, true, true, true, true, true, true, true, true, true, true, true, true, true, true, true, true, true, true, true, true, true, true, true, true, false, false, false, false, false, false, false, false, false] rfl rfl (any_of HT_.out (by kernel_rfl)) (fun _ _ _ h => h) (Or.inl ⟨by rfl, ?_⟩) ?_ ?_
                                      rotate_left
                                      · intro w'
                                        go_simp
                                        with_reducible rfl
                                      rotate_left
                                      · simp only [Act.put, List.setIfInBounds_toArray, List.set_cons_zero, List.set_cons_succ, i64_w, i32_w]
                                        rfl
                                      refine pure_ (i := 45) (N := some 109) (v := ?_) (a' := ?_) #[true, true, true, true, true, true, true, true, true, true, true, true, true, true, true, true, true, true, true, true, true, true, true, true, true, true, true, true, true, true, true, true, true, true, true, true, true, true, true, true, true, true, true, true, true, true, false, false, false, false, false, false, false, false] rfl rfl (any_of HT_.out (by kernel_rfl)) (fun _ _ _ h => h) (Or.inl ⟨by rfl, ?_⟩) ?_ ?_
                                      rotate_left
                                      · intro w'
                                        go_simp
                                        with_reducible rfl
                                      rotate_left
                                      · simp only [Act.put, List.setIfInBounds_toArray, List.set_cons_zero, List.set_cons_succ, i64_w, i32_w]
                                        rfl
                                      refine pure_ (i := 46) (N := some 110) (v := ?_) (a' := ?_) #[true, true, true, true, true, true, true, true, true, true, true, true, true, true, true, true, true, true, true, true, true, true, true, true, true, true, true, true, true, true, true, true, true, true, true, true, true, true, true, true, true, true, true, true, true, true, true, false, false, false, false, false, false, false] rfl rfl (any_of HT_.out (by kernel_rfl)) (fun _ _ _ h => h) (Or.inl ⟨by rfl, ?_⟩) ?_ ?_
                                      rotate_left
                                      · intro w'
                                        go_simp
                                        with_reducible rfl
                                      rotate_left
                                      · simp only [Act.put, List.setIfInBounds_toArray, List.set_cons_zero, List.set_cons_succ, i64_w, i32_w]
                                        rfl
                                      refine pure_ (i := 47) (N := some 111) (v := ?_) (a' := ?_) #[true, true, true, true, true, true, true, true, true, true, true, true, true, true, true, true, true, true, true, true, true, true, true, true, true, true, true, true, true, true, true, true, true, true, true, true, true, true, true, true, true, true, true, true, true, true, true, true, false, false, false, false, false, false] rfl rfl (any_of HT_.out (by kernel_rfl)) (fun _ _ _ h => h) (Or.inl ⟨by rfl, ?_⟩) ?_ ?_
                                      rotate_left
                                      · intro w'
                                        go_simp
                                        with_reducible rfl
                                      rotate_left
                                      · simp only [Act.put, List.setIfInBounds_toArray, List.set_cons_zero, List.set_cons_succ, i64_w, i32_w]
                                        rfl
                                      refine pure_ (i := 49) (N := some 113) (v := ?_) (a' := ?_) #[true, true, true, true, true, true, true, true, true, true, true, true, true, true, true, true, true, true, true, true, true, true, true, true, true, true, true, true, true, true, true, true, true, true, true, true, true, true, true, true, true, true, true, true, true, true, true, true, false, true, false, false, false, false] rfl rfl (any_of HT_.out (by kernel_rfl)) (fun _ _ _ h => h) (Or.inl ⟨by rfl, ?_⟩) ?_ ?_
                                      rotate_left
                                      · intro w'
                                        go_simp
                                        with_reducible rfl
                                      rotate_left
                                      · simp only [Act.put, List.setIfInBounds_toArray, List.set_cons_zero, List.set_cons_succ, i64_w, i32_w]
                                        rfl
                                      refine pure_ (i := 50) (N := some 114) (v := ?_) (a' := ?_) #[true, true, true, true, true, true, true, true, true, true, true, true, true, true, true, true, true, true, true, true, true, true, true, true, true, true, true, true, true, true, true, true, true, true, true, true, true, true, true, true, true, true, true, true, true, true, true, true, false, true, true, false, false, false] rfl rfl (any_of HT_.out (by kernel_rfl)) (fun _ _ _ h => h) (Or.inl ⟨by rfl, ?_⟩) ?_ ?_
                                      rotate_left
                                      · intro w'
                                        go_simp
                                        with_reducible rfl
                                      rotate_left
                                      · simp only [Act.put, List.setIfInBounds_toArray, List.set_cons_zero, List.set_cons_succ, i64_w, i32_w]
                                        rfl
                                      refine take_ (i := 48) (N := some 112) (v := ?_) (a' := ?_) #[true, true, true, true, true, true, true, true, true, true, true, true, true, true, true, true, true, true, true, true, true, true, true, true, true, true, true, true, true, true, true, true, true, true, true, true, true, true, true, true, true, true, true, true, true, true, true, true, true, true, true, false, false, false] rfl rfl (take_ofW HT_.out HW_.out (by kernel_rfl)) (fun _ _ _ h => h) (Or.inl ⟨by rfl, ?_⟩) hHeld ?_ ?_
                                      rotate_left
                                      · rintro w' ⟨s0, s1, s2, s3, s4, s5, s6, s7, s8, s9, s10, s11, s12, s13, s14, s15, s16, s17, s18, s19, s20, s21, s22, s23, s24, s25, s26, s27, s28, s29, s30⟩
                                        go_simp
                                        with_reducible rfl
                                      rotate_left
                                      · simp only [Act.put, List.setIfInBounds_toArray, List.set_cons_zero, List.set_cons_succ, i64_w, i32_w]
                                        rfl
                                      refine take_ (i := 51) (N := some 115) (v := ?_) (a' := ?_) #[true, true, true, true, true, true, true, true, true, true, true, true, true, true, true, true, true, true, true, true, true, true, true, true, true, true, true, true, true, true, true, true, true, true, true, true, true, true, true, true, true, true, true, true, true, true, true, true, true, true, true, true, false, false] rfl rfl (take_ofW HT_.out HW_.out (by kernel_rfl)) (fun _ _ _ h => h) (Or.inl ⟨by rfl, ?_⟩) hHeld ?_ ?_
                                      rotate_left
                                      · rintro w' ⟨s0, s1, s2, s3, s4, s5, s6, s7, s8, s9, s10, s11, s12, s13, s14, s15, s16, s17, s18, s19, s20, s21, s22, s23, s24, s25, s26, s27, s28, s29, s30⟩
                                        go_simp
                                        with_reducible rfl
                                      rotate_left
                                      · simp only [Act.put, List.setIfInBounds_toArray, List.set_cons_zero, List.set_cons_succ, i64_w, i32_w]
                                        rfl
                                      refine pure_ (i := 52) (N := some 116) (v := ?_) (a' := ?_) #[true, true, true, true, true, true, true, true, true, true, true, true, true, true, true, true, true, true, true, true, true, true, true, true, true, true, true, true, true, true, true, true, true, true, true, true, true, true, true, true, true, true, true, true, true, true, true, true, true, true, true, true, true, false] rfl rfl (any_of HT_.out (by kernel_rfl)) (fun _ _ _ h => h) (Or.inl ⟨by rfl, ?_⟩) ?_ ?_
                                      rotate_left
                                      · intro w'
                                        go_simp
                                        with_reducible rfl
                                      rotate_left
                                      · simp only [Act.put, List.setIfInBounds_toArray, List.set_cons_zero, List.set_cons_succ, i64_w, i32_w]
                                        rfl
                                      refine pure_ (i := 53) (N := some 117) (v := ?_) (a' := ?_) #[true, true, true, true, true, true, true, true, true, true, true, true, true, true, true, true, true, true, true, true, true, true, true, true, true, true, true, true, true, true, true, true, true, true, true, true, true, true, true, true, true, true, true, true, true, true, true, true, true, true, true, true, true, true] rfl rfl (any_of HT_.out (by kernel_rfl)) (fun _ _ _ h => h) (Or.inl ⟨by rfl, ?_⟩) ?_ ?_
                                      rotate_left
                                      · intro w'
                                        go_simp
                                        with_reducible rfl
                                      rotate_left
                                      · simp only [Act.put, List.setIfInBounds_toArray, List.set_cons_zero, List.set_cons_succ, i64_w, i32_w]
                                        rfl
                                      refine done_ (done_of HT_.out (by kernel_rfl)) ?_
                                      try go_wp2
                                      go_roundg kj7
                                      case measure => have := HK1.out; have := HJ1.out; have := HJ7.out; omega
                                      case rel => exact ⟨(wrap64 (x3_1 + 1)), (by first | rfl | (simp; done) | (simp [*]; done)), H', ⟨by have := HK1.out; have := HJ1.out; have := HJ7.out; omega⟩, ⟨by repeat (first | (with_reducible first | exact HB.out | apply below_alloc | apply pw_below_drewN | apply below_drew1 | refine below_set ?_ GE146.out | refine below_set ?_ GE157.out | refine below_set ?_ GE170.out) | exact HB.out)⟩⟩
                                    · rw [if_neg c46] at H
                                      have c46b0 : (t155 == ((rd_T29 l0 x3_1).f0.f8)) = false := beq_eq_false_iff_ne.mpr c46
                                      have c46b1 : (t155 != ((rd_T29 l0 x3_1).f0.f8)) = true := bne_iff_ne.mpr c46
                                      exact absurd ((Option.some.inj H).trans hrt_.out) (by simp)
                                · rw [if_neg c44] at H
                                  have c44b0 : (t150 == ((rd_T29 l0 x3_1).f2)) = false := beq_eq_false_iff_ne.mpr c44
                                  have c44b1 : (t150 != ((rd_T29 l0 x3_1).f2)) = true := bne_iff_ne.mpr c44
                                  exact absurd ((Option.some.inj H).trans hrt_.out) (by simp)
                        · rw [if_neg c39] at H
                          have c39b0 : (t172 == 0) = false := beq_eq_false_iff_ne.mpr c39
                          have c39b1 : (t172 != 0) = true := bne_iff_ne.mpr c39
                          exact absurd ((Option.some.inj H).trans hrt_.out) (by simp)
                      · rw [if_neg c37] at H
                        have c37b0 : (t171 == 0) = false := beq_eq_false_iff_ne.mpr c37
                        have c37b1 : (t171 != 0) = true := bne_iff_ne.mpr c37
                        exact absurd ((Option.some.inj H).trans hrt_.out) (by simp)
              · rw [if_neg c6] at H
                exact absurd H (by simp)
            · rw [if_neg c5] at H
              exact absurd H (by simp)
          · replace c4 := Bool.eq_false_iff.mpr c4
            subst c4
            have H1 : ((gimballaw9_wakes.f kj1).bind fun t144 => (some t144)) = some r := by rw [if_neg (show ¬ (false = true) by decide)] at H; exact H
            clear H
            have H := H1
            clear H1
            replace H := Option.bind_eq_some_iff.mp H
            obtain ⟨t144, A580, H⟩ := H
            replace H : (some t144) = some r := H
            have A58 := Aside0.mk A580
            clear A580
            obtain rfl := Option.some.inj H
            go_wp2_with (first | ((with_reducible refine gate_callee (f := 13) rfl ?_); refine goesL_ (some 118) rfl rfl Try.func13 (by kernel_rfl) rfl #[] rfl (by (try simp only [List.map_toArray, List.map_cons, List.map_nil]); first | done | rfl | (simp only [List.length_drop, List.length_take]; rfl)) ?_; (with_reducible refine (gimballaw9_wakes.calls kj1  t144 _ A58.out).mono ?_); rintro e w59 ⟨rfl, hb⟩; refine ⟨_, rfl, ?_⟩; have n0_ := Aside0.mk (below_step (by repeat (first | (with_reducible first | exact HB.out | apply below_alloc | apply pw_below_drewN | apply below_drew1) | exact HB.out)) hb); clear HB; have HB := n0_; clear n0_; (try clear hb); (try clear hb2); (try clear hk); (try clear hi)))
            go_ret
            exact ⟨by first | rfl | (simp [errW_none, errW_some] <;> rfl) | (simp [*, errW_none, errW_some] <;> rfl), by repeat (first | (with_reducible first | exact HB.out | apply below_alloc | apply pw_below_drewN | apply below_drew1) | exact HB.out)⟩

end Go.Proofs.Ytnlmbejkemkkoaa.PDrvSets
