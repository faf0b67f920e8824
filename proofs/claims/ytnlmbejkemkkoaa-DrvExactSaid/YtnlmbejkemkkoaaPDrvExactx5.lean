import Derived.Test.YtnlmbejkemkkoaaCut
import Derived.Test.YtnlmbejkemkkoaaPDrvExactx0
import Derived.Test.YtnlmbejkemkkoaaPDrvExactx3
import Derived.Test.YtnlmbejkemkkoaaPDrvExactx4
namespace Go.Proofs.Ytnlmbejkemkkoaa.PDrvExact
open Go.RowKit Go.Proofs.YtnlmbejkemkkoaaW.PrintWords Go.Proofs.YtnlmbejkemkkoaaW.PrintLast Go.Proofs.YtnlmbejkemkkoaaW.PrintMore
attribute [local go_sem] max2_int min2_int max_two min_two max_three min_three max_four min_four   -- for this text's walks alone
set_option linter.unusedVariables false
set_option linter.unusedSimpArgs false

/-! ### drv_Set: function 14 -/
mutual
def drv_Set.j0 : Nat → Bool → Int → Bool → Int → Int → Bool → Int → Int → Int → Bool → Int → Int → Option (Int × Int × Bool × Int × Int × Int × Bool × Int × Int × Int)
 | 0, _, _, _, _, _, _, _, _, _, _, _, _ => none
 | k + 1, x1, x2, x20, x154000, x154001, x154002, x154003, x154004, x154005, x154006, x154007, x154008 => if x20 = true then (some (0, 0, false, 0, 0, 0, false, 0, 0, 1)) else (if x154004 = 7 then (drv_Set.j1 k x1 x154004 (x2 != x154003) x154004 (x154004 == 7) x154000 x154001 x1 x2 x154004 x154005 x154006 x154007 x154008) else (drv_Set.j1 k x1 x154004 (x2 != x154003) x154004 (x154004 == 8) x154000 x154001 x1 x2 x154004 x154005 x154006 x154007 x154008))
def drv_Set.j3 : Nat → Bool → Int → Int → Int → Bool → Int → Int → Int → Bool → Int → Int → Option (Int × Int × Bool × Int × Int × Int × Bool × Int × Int × Int)
 | 0, _, _, _, _, _, _, _, _, _, _, _ => none
 | k + 1, x1, x8, x154000, x154001, x154002, x154003, x154004, x154005, x154006, x154007, x154008 => if x1 = true then (drv_Set.j4 k x8 false x154000 x154001 x154002 x154003 x154004 x154005 x154006 x154007 x154008) else (if x8 = 0 then (drv_Set.j4 k x8 false x154000 x154001 x154002 x154003 x154004 x154005 x154006 x154007 x154008) else (if x8 = 7 then (drv_Set.j4 k x8 false x154000 x154001 x154002 x154003 x154004 x154005 x154006 x154007 x154008) else (drv_Set.j4 k x8 (x8 != 8) x154000 x154001 x154002 x154003 x154004 x154005 x154006 x154007 x154008)))
def drv_Set.j4 : Nat → Int → Bool → Int → Int → Bool → Int → Int → Int → Bool → Int → Int → Option (Int × Int × Bool × Int × Int × Int × Bool × Int × Int × Int)
 | 0, _, _, _, _, _, _, _, _, _, _, _ => none
 | k + 1, x8, x64, x154000, x154001, x154002, x154003, x154004, x154005, x154006, x154007, x154008 => if x64 = true then (if 6 = x8 then (some (x154000, x154001, x154002, x154003, 6, x154005, x154006, x154007, x154008, 0)) else (some (x154000, x154001, x154002, x154003, 6, 0, x154006, 0, x154008, 0))) else (if x154004 = x8 then (some (x154000, x154001, x154002, x154003, x154004, x154005, x154006, x154007, x154008, 0)) else (some (x154000, x154001, x154002, x154003, x154004, 0, x154006, 0, x154008, 0)))
def drv_Set.j1 : Nat → Bool → Int → Bool → Int → Bool → Int → Int → Bool → Int → Int → Int → Bool → Int → Int → Option (Int × Int × Bool × Int × Int × Int × Bool × Int × Int × Int)
 | 0, _, _, _, _, _, _, _, _, _, _, _, _, _, _ => none
 | k + 1, x1, x8, x9, x33, x34, x154000, x154001, x154002, x154003, x154004, x154005, x154006, x154007, x154008 => if x34 = true then (drv_Set.j3 k x1 x8 x154000 x154001 x154002 x154003 x154004 x154005 x154006 x154007 x154008) else (if x33 = 0 then (if x1 = true then (drv_Set.j3 k x1 x8 x154000 x154001 x154002 x154003 1 x154005 x154006 x154007 x154008) else (drv_Set.j3 k x1 x8 x154000 x154001 x154002 x154003 x154004 x154005 x154006 x154007 x154008)) else (if x33 = 6 then (if x1 = true then (drv_Set.j3 k x1 x8 x154000 x154001 x154002 x154003 1 x154005 x154006 x154007 x154008) else (drv_Set.j3 k x1 x8 x154000 x154001 x154002 x154003 x154004 x154005 x154006 x154007 x154008)) else (if x33 = 3 then (drv_Set.j2 k x1 x8 x9 (x33 == 3) x154000 x154001 x154002 x154003 x154004 x154005 x154006 x154007 x154008) else (if x33 = 4 then (drv_Set.j2 k x1 x8 x9 (x33 == 4) x154000 x154001 x154002 x154003 x154004 x154005 x154006 x154007 x154008) else (drv_Set.j2 k x1 x8 x9 (x33 == 5) x154000 x154001 x154002 x154003 x154004 x154005 x154006 x154007 x154008)))))
def drv_Set.j2 : Nat → Bool → Int → Bool → Bool → Int → Int → Bool → Int → Int → Int → Bool → Int → Int → Option (Int × Int × Bool × Int × Int × Int × Bool × Int × Int × Int)
 | 0, _, _, _, _, _, _, _, _, _, _, _, _, _ => none
 | k + 1, x1, x8, x9, x45, x154000, x154001, x154002, x154003, x154004, x154005, x154006, x154007, x154008 => if x45 = true then (if x9 = true then (drv_Set.j3 k x1 x8 x154000 x154001 x154002 x154003 2 x154005 x154006 x154007 x154008) else (drv_Set.j3 k x1 x8 x154000 x154001 x154002 x154003 x154004 x154005 x154006 x154007 x154008)) else (drv_Set.j3 k x1 x8 x154000 x154001 x154002 x154003 x154004 x154005 x154006 x154007 x154008)
end
def drv_Set.f (k : Nat) (a0_0 : Int) (a0_1 : Int) (a0_2 : Bool) (a0_3 : Int) (a0_4 : Int) (a0_5 : Int) (a0_6 : Bool) (a0_7 : Int) (a0_8 : Int) (a1 : Bool) (a2 : Int) : Option (Int × Int × Bool × Int × Int × Int × Bool × Int × Int × Int) := (drv_Good.f a0_0 a0_1 a0_2 a0_3 a0_4 a0_5 a0_6 a0_7 a0_8).bind fun t155 => (if t155 = true then (if a2 < 1 then (drv_Set.j0 k a1 a2 true a0_0 a0_1 a0_2 a0_3 a0_4 a0_5 a0_6 a0_7 a0_8) else (drv_Set.j0 k a1 a2 (decide (a2 > 250)) a0_0 a0_1 a0_2 a0_3 a0_4 a0_5 a0_6 a0_7 a0_8)) else (drv_Set.j0 k a1 a2 true a0_0 a0_1 a0_2 a0_3 a0_4 a0_5 a0_6 a0_7 a0_8))
theorem drv_Set.mono_l : ∀ k, (∀ y0 y1 y2 y3 y4 y5 y6 y7 y8 y9 y10 y11, LeO (drv_Set.j0 k y0 y1 y2 y3 y4 y5 y6 y7 y8 y9 y10 y11) (drv_Set.j0 (k + 1) y0 y1 y2 y3 y4 y5 y6 y7 y8 y9 y10 y11)) ∧ (∀ y0 y1 y2 y3 y4 y5 y6 y7 y8 y9 y10, LeO (drv_Set.j3 k y0 y1 y2 y3 y4 y5 y6 y7 y8 y9 y10) (drv_Set.j3 (k + 1) y0 y1 y2 y3 y4 y5 y6 y7 y8 y9 y10)) ∧ (∀ y0 y1 y2 y3 y4 y5 y6 y7 y8 y9 y10, LeO (drv_Set.j4 k y0 y1 y2 y3 y4 y5 y6 y7 y8 y9 y10) (drv_Set.j4 (k + 1) y0 y1 y2 y3 y4 y5 y6 y7 y8 y9 y10)) ∧ (∀ y0 y1 y2 y3 y4 y5 y6 y7 y8 y9 y10 y11 y12 y13, LeO (drv_Set.j1 k y0 y1 y2 y3 y4 y5 y6 y7 y8 y9 y10 y11 y12 y13) (drv_Set.j1 (k + 1) y0 y1 y2 y3 y4 y5 y6 y7 y8 y9 y10 y11 y12 y13)) ∧ (∀ y0 y1 y2 y3 y4 y5 y6 y7 y8 y9 y10 y11 y12, LeO (drv_Set.j2 k y0 y1 y2 y3 y4 y5 y6 y7 y8 y9 y10 y11 y12) (drv_Set.j2 (k + 1) y0 y1 y2 y3 y4 y5 y6 y7 y8 y9 y10 y11 y12))
 | 0 => ⟨fun _ _ _ _ _ _ _ _ _ _ _ _ r h => by simp [drv_Set.j0] at h, fun _ _ _ _ _ _ _ _ _ _ _ r h => by simp [drv_Set.j3] at h, fun _ _ _ _ _ _ _ _ _ _ _ r h => by simp [drv_Set.j4] at h, fun _ _ _ _ _ _ _ _ _ _ _ _ _ _ r h => by simp [drv_Set.j1] at h, fun _ _ _ _ _ _ _ _ _ _ _ _ _ r h => by simp [drv_Set.j2] at h⟩
 | k + 1 => by
  obtain ⟨ih0, ih1, ih2, ih3, ih4⟩ := drv_Set.mono_l k
  refine ⟨?_, ?_, ?_, ?_, ?_⟩
  ·intro y0 y1 y2 y3 y4 y5 y6 y7 y8 y9 y10 y11
   unfold drv_Set.j0
   repeat' first
   | (with_reducible exact ih0 _ _ _ _ _ _ _ _ _ _ _ _)
   | (with_reducible exact ih1 _ _ _ _ _ _ _ _ _ _ _)
   | (with_reducible exact ih2 _ _ _ _ _ _ _ _ _ _ _)
   | (with_reducible exact ih3 _ _ _ _ _ _ _ _ _ _ _ _ _ _)
   | (with_reducible exact ih4 _ _ _ _ _ _ _ _ _ _ _ _ _)
   | (with_reducible exact LeO.refl _)
   | (with_reducible exact LeO.none _)
   | (with_reducible refine LeO.ite ?_ ?_)
   | (with_reducible refine LeO.bind ?_ (fun _ => ?_))
   | exact ih0 _ _ _ _ _ _ _ _ _ _ _ _
   | exact ih1 _ _ _ _ _ _ _ _ _ _ _
   | exact ih2 _ _ _ _ _ _ _ _ _ _ _
   | exact ih3 _ _ _ _ _ _ _ _ _ _ _ _ _ _
   | exact ih4 _ _ _ _ _ _ _ _ _ _ _ _ _
   | exact LeO.none _
   | refine LeO.ite ?_ ?_
   | refine LeO.bind ?_ (fun _ => ?_)
  ·intro y0 y1 y2 y3 y4 y5 y6 y7 y8 y9 y10
   unfold drv_Set.j3
   repeat' first
   | (with_reducible exact ih0 _ _ _ _ _ _ _ _ _ _ _ _)
   | (with_reducible exact ih1 _ _ _ _ _ _ _ _ _ _ _)
   | (with_reducible exact ih2 _ _ _ _ _ _ _ _ _ _ _)
   | (with_reducible exact ih3 _ _ _ _ _ _ _ _ _ _ _ _ _ _)
   | (with_reducible exact ih4 _ _ _ _ _ _ _ _ _ _ _ _ _)
   | (with_reducible exact LeO.refl _)
   | (with_reducible exact LeO.none _)
   | (with_reducible refine LeO.ite ?_ ?_)
   | (with_reducible refine LeO.bind ?_ (fun _ => ?_))
   | exact ih0 _ _ _ _ _ _ _ _ _ _ _ _
   | exact ih1 _ _ _ _ _ _ _ _ _ _ _
   | exact ih2 _ _ _ _ _ _ _ _ _ _ _
   | exact ih3 _ _ _ _ _ _ _ _ _ _ _ _ _ _
   | exact ih4 _ _ _ _ _ _ _ _ _ _ _ _ _
   | exact LeO.none _
   | refine LeO.ite ?_ ?_
   | refine LeO.bind ?_ (fun _ => ?_)
  ·intro y0 y1 y2 y3 y4 y5 y6 y7 y8 y9 y10
   unfold drv_Set.j4
   repeat' first
   | (with_reducible exact ih0 _ _ _ _ _ _ _ _ _ _ _ _)
   | (with_reducible exact ih1 _ _ _ _ _ _ _ _ _ _ _)
   | (with_reducible exact ih2 _ _ _ _ _ _ _ _ _ _ _)
   | (with_reducible exact ih3 _ _ _ _ _ _ _ _ _ _ _ _ _ _)
   | (with_reducible exact ih4 _ _ _ _ _ _ _ _ _ _ _ _ _)
   | (with_reducible exact LeO.refl _)
   | (with_reducible exact LeO.none _)
   | (with_reducible refine LeO.ite ?_ ?_)
   | (with_reducible refine LeO.bind ?_ (fun _ => ?_))
   | exact ih0 _ _ _ _ _ _ _ _ _ _ _ _
   | exact ih1 _ _ _ _ _ _ _ _ _ _ _
   | exact ih2 _ _ _ _ _ _ _ _ _ _ _
   | exact ih3 _ _ _ _ _ _ _ _ _ _ _ _ _ _
   | exact ih4 _ _ _ _ _ _ _ _ _ _ _ _ _
   | exact LeO.none _
   | refine LeO.ite ?_ ?_
   | refine LeO.bind ?_ (fun _ => ?_)
  ·intro y0 y1 y2 y3 y4 y5 y6 y7 y8 y9 y10 y11 y12 y13
   unfold drv_Set.j1
   repeat' first
   | (with_reducible exact ih0 _ _ _ _ _ _ _ _ _ _ _ _)
   | (with_reducible exact ih1 _ _ _ _ _ _ _ _ _ _ _)
   | (with_reducible exact ih2 _ _ _ _ _ _ _ _ _ _ _)
   | (with_reducible exact ih3 _ _ _ _ _ _ _ _ _ _ _ _ _ _)
   | (with_reducible exact ih4 _ _ _ _ _ _ _ _ _ _ _ _ _)
   | (with_reducible exact LeO.refl _)
   | (with_reducible exact LeO.none _)
   | (with_reducible refine LeO.ite ?_ ?_)
   | (with_reducible refine LeO.bind ?_ (fun _ => ?_))
   | exact ih0 _ _ _ _ _ _ _ _ _ _ _ _
   | exact ih1 _ _ _ _ _ _ _ _ _ _ _
   | exact ih2 _ _ _ _ _ _ _ _ _ _ _
   | exact ih3 _ _ _ _ _ _ _ _ _ _ _ _ _ _
   | exact ih4 _ _ _ _ _ _ _ _ _ _ _ _ _
   | exact LeO.none _
   | refine LeO.ite ?_ ?_
   | refine LeO.bind ?_ (fun _ => ?_)
  ·intro y0 y1 y2 y3 y4 y5 y6 y7 y8 y9 y10 y11 y12
   unfold drv_Set.j2
   repeat' first
   | (with_reducible exact ih0 _ _ _ _ _ _ _ _ _ _ _ _)
   | (with_reducible exact ih1 _ _ _ _ _ _ _ _ _ _ _)
   | (with_reducible exact ih2 _ _ _ _ _ _ _ _ _ _ _)
   | (with_reducible exact ih3 _ _ _ _ _ _ _ _ _ _ _ _ _ _)
   | (with_reducible exact ih4 _ _ _ _ _ _ _ _ _ _ _ _ _)
   | (with_reducible exact LeO.refl _)
   | (with_reducible exact LeO.none _)
   | (with_reducible refine LeO.ite ?_ ?_)
   | (with_reducible refine LeO.bind ?_ (fun _ => ?_))
   | exact ih0 _ _ _ _ _ _ _ _ _ _ _ _
   | exact ih1 _ _ _ _ _ _ _ _ _ _ _
   | exact ih2 _ _ _ _ _ _ _ _ _ _ _
   | exact ih3 _ _ _ _ _ _ _ _ _ _ _ _ _ _
   | exact ih4 _ _ _ _ _ _ _ _ _ _ _ _ _
   | exact LeO.none _
   | refine LeO.ite ?_ ?_
   | refine LeO.bind ?_ (fun _ => ?_)
theorem drv_Set.mono : ∀ a0 a1 a2 a3 a4 a5 a6 a7 a8 a9 a10 k, LeO (drv_Set.f k a0 a1 a2 a3 a4 a5 a6 a7 a8 a9 a10) (drv_Set.f (k + 1) a0 a1 a2 a3 a4 a5 a6 a7 a8 a9 a10) := by
 intro a0 a1 a2 a3 a4 a5 a6 a7 a8 a9 a10 k
 obtain ⟨ih0, ih1, ih2, ih3, ih4⟩ := drv_Set.mono_l k
 unfold drv_Set.f
 repeat' first
   | (with_reducible exact ih0 _ _ _ _ _ _ _ _ _ _ _ _)
   | (with_reducible exact ih1 _ _ _ _ _ _ _ _ _ _ _)
   | (with_reducible exact ih2 _ _ _ _ _ _ _ _ _ _ _)
   | (with_reducible exact ih3 _ _ _ _ _ _ _ _ _ _ _ _ _ _)
   | (with_reducible exact ih4 _ _ _ _ _ _ _ _ _ _ _ _ _)
   | (with_reducible exact LeO.refl _)
   | (with_reducible exact LeO.none _)
   | (with_reducible refine LeO.ite ?_ ?_)
   | (with_reducible refine LeO.bind ?_ (fun _ => ?_))
   | exact ih0 _ _ _ _ _ _ _ _ _ _ _ _
   | exact ih1 _ _ _ _ _ _ _ _ _ _ _
   | exact ih2 _ _ _ _ _ _ _ _ _ _ _
   | exact ih3 _ _ _ _ _ _ _ _ _ _ _ _ _ _
   | exact ih4 _ _ _ _ _ _ _ _ _ _ _ _ _
   | exact LeO.none _
   | refine LeO.ite ?_ ?_
   | refine LeO.bind ?_ (fun _ => ?_)
set_option maxHeartbeats 8000000 in
set_option maxRecDepth 100000 in
theorem drv_Set.calls (k : Nat) (a0_0 : Int) (a0_1 : Int) (a0_2 : Bool) (a0_3 : Int) (a0_4 : Int) (a0_5 : Int) (a0_6 : Bool) (a0_7 : Int) (a0_8 : Int) (a1 : Bool) (a2 : Int) (r1 : Int) (r2 : Int) (r3 : Bool) (r4 : Int) (r5 : Int) (r6 : Int) (r7 : Bool) (r8 : Int) (r9 : Int) (r10 : Int) (w : World) (h : drv_Set.f k a0_0 a0_1 a0_2 a0_3 a0_4 a0_5 a0_6 a0_7 a0_8 a1 a2 = some (r1, r2, r3, r4, r5, r6, r7, r8, r9, r10)) :
  Calls Try.prog 14 #[.agg #[.int .i64 a0_0, .int .i64 a0_1, .bool a0_2, .int .i64 a0_3, .int .i64 a0_4, .int .i64 a0_5, .bool a0_6, .int .i64 a0_7, .int .i64 a0_8], .bool a1, .int .i64 a2] w fun e w' => e = .returned (.tuple #[.agg #[.int .i64 r1, .int .i64 r2, .bool r3, .int .i64 r4, .int .i64 r5, .int .i64 r6, .bool r7, .int .i64 r8, .int .i64 r9], .int .i64 r10]) ∧ Below w.heap.size w w' := by
 have hu24 := Try.underlying24
 have HB := Aside0.mk (Below.refl w.heap.size w)
 have H : ((drv_Good.f a0_0 a0_1 a0_2 a0_3 a0_4 a0_5 a0_6 a0_7 a0_8).bind fun t155 => (if t155 = true then (if a2 < 1 then (drv_Set.j0 k a1 a2 true a0_0 a0_1 a0_2 a0_3 a0_4 a0_5 a0_6 a0_7 a0_8) else (drv_Set.j0 k a1 a2 (decide (a2 > 250)) a0_0 a0_1 a0_2 a0_3 a0_4 a0_5 a0_6 a0_7 a0_8)) else (drv_Set.j0 k a1 a2 true a0_0 a0_1 a0_2 a0_3 a0_4 a0_5 a0_6 a0_7 a0_8))) = some (r1, r2, r3, r4, r5, r6, r7, r8, r9, r10) := h
 clear h
 have HC4 := Aside0.mk H
 clear H
 go_enter Try.func14, Try.ntmps14
 go_upto_region 1 with (first | ((with_reducible refine gate_dst (N := 3) rfl ?_); refine box_event ?hg (N := 3) ?hd (cs := #[.int .i64 a0_0, .int .i64 a0_1, .bool a0_2, .int .i64 a0_3, .int .i64 a0_4, .int .i64 a0_5, .bool a0_6, .int .i64 a0_7, .int .i64 a0_8]) (t := 24) ?hr ?_; (case hd => rfl); (case hg => rfl); (case hr => first | (go_simp; done) | (go_simp; rfl)); intro gb153 hg w5 hbox hb; have BK153 := Aside0.mk hbox; have GW153 := Sq.ge hg HB; have GE153 := Sq.ge hg HB; replace HB := Sq.sw HB hb; clear hb hbox hg) | ((with_reducible refine gate_dst (N := 6) rfl ?_); refine box_event ?hg (N := 6) ?hd (cs := #[.int .i64 0, .int .i64 0, .bool false, .int .i64 0, .int .i64 0, .int .i64 0, .bool false, .int .i64 0, .int .i64 0]) (t := 24) ?hr ?_; (case hd => rfl); (case hg => rfl); (case hr => first | (go_simp; done) | (go_simp; rfl)); intro gb154 hg w6 hbox hb; have BK154 := Aside0.mk hbox; have GW154 := Sq.ge hg HB; have GE154 := Sq.ge hg HB; obtain ⟨NB153_154, NB154_153⟩ := Sq.np hg BK153; replace BK153 := Sq.sb BK153 hb; replace HB := Sq.sw HB hb; clear hb hbox hg))
 repeat (go_quiet (first | ((with_reducible refine gate_dst (N := 3) rfl ?_); refine box_event ?hg (N := 3) ?hd (cs := #[.int .i64 a0_0, .int .i64 a0_1, .bool a0_2, .int .i64 a0_3, .int .i64 a0_4, .int .i64 a0_5, .bool a0_6, .int .i64 a0_7, .int .i64 a0_8]) (t := 24) ?hr ?_; (case hd => rfl); (case hg => rfl); (case hr => first | (go_simp; done) | (go_simp; rfl)); intro gb153 hg w5 hbox hb; have BK153 := Aside0.mk hbox; have GW153 := Sq.ge hg HB; have GE153 := Sq.ge hg HB; replace HB := Sq.sw HB hb; clear hb hbox hg) | ((with_reducible refine gate_dst (N := 6) rfl ?_); refine box_event ?hg (N := 6) ?hd (cs := #[.int .i64 0, .int .i64 0, .bool false, .int .i64 0, .int .i64 0, .int .i64 0, .bool false, .int .i64 0, .int .i64 0]) (t := 24) ?hr ?_; (case hd => rfl); (case hg => rfl); (case hr => first | (go_simp; done) | (go_simp; rfl)); intro gb154 hg w6 hbox hb; have BK154 := Aside0.mk hbox; have GW154 := Sq.ge hg HB; have GE154 := Sq.ge hg HB; obtain ⟨NB153_154, NB154_153⟩ := Sq.np hg BK153; replace BK153 := Sq.sb BK153 hb; replace HB := Sq.sw HB hb; clear hb hbox hg)); go_upto_region 1 with (first | ((with_reducible refine gate_dst (N := 3) rfl ?_); refine box_event ?hg (N := 3) ?hd (cs := #[.int .i64 a0_0, .int .i64 a0_1, .bool a0_2, .int .i64 a0_3, .int .i64 a0_4, .int .i64 a0_5, .bool a0_6, .int .i64 a0_7, .int .i64 a0_8]) (t := 24) ?hr ?_; (case hd => rfl); (case hg => rfl); (case hr => first | (go_simp; done) | (go_simp; rfl)); intro gb153 hg w5 hbox hb; have BK153 := Aside0.mk hbox; have GW153 := Sq.ge hg HB; have GE153 := Sq.ge hg HB; replace HB := Sq.sw HB hb; clear hb hbox hg) | ((with_reducible refine gate_dst (N := 6) rfl ?_); refine box_event ?hg (N := 6) ?hd (cs := #[.int .i64 0, .int .i64 0, .bool false, .int .i64 0, .int .i64 0, .int .i64 0, .bool false, .int .i64 0, .int .i64 0]) (t := 24) ?hr ?_; (case hd => rfl); (case hg => rfl); (case hr => first | (go_simp; done) | (go_simp; rfl)); intro gb154 hg w6 hbox hb; have BK154 := Aside0.mk hbox; have GW154 := Sq.ge hg HB; have GE154 := Sq.ge hg HB; obtain ⟨NB153_154, NB154_153⟩ := Sq.np hg BK153; replace BK153 := Sq.sb BK153 hb; replace HB := Sq.sw HB hb; clear hb hbox hg)))
 (try simp only [Act.put, List.setIfInBounds_toArray, List.set_cons_zero, List.set_cons_succ])
 refine Cu.wp_cut (Cu.rep 10 Cu.f (Cu.rep 23 Cu.t (Cu.rep 2 Cu.f (Cu.rep 2 Cu.t (Cu.rep 1 Cu.f (Cu.rep 3 Cu.t (Cu.rep 1 Cu.f (Cu.rep 3 Cu.t (Cu.rep 1 Cu.f (Cu.rep 27 Cu.t [])))))))))) 58 (fun us_ wc => ∃ (kq : Nat) (x20_3 : Bool), (Cu.nth us_ 10) = .bool x20_3 ∧ Aside0 (drv_Set.j0 kq a1 a2 x20_3 a0_0 a0_1 a0_2 a0_3 a0_4 a0_5 a0_6 a0_7 a0_8 = some (r1, r2, r3, r4, r5, r6, r7, r8, r9, r10)) ∧ Aside0 (kq ≤ k) ∧ Aside0 (wc.heap[gb153]? = some (.cells #[.int .i64 a0_0, .int .i64 a0_1, .bool a0_2, .int .i64 a0_3, .int .i64 a0_4, .int .i64 a0_5, .bool a0_6, .int .i64 a0_7, .int .i64 a0_8] 24 (0, 0))) ∧ Aside0 (wc.heap[gb154]? = some (.cells #[.int .i64 0, .int .i64 0, .bool false, .int .i64 0, .int .i64 0, .int .i64 0, .bool false, .int .i64 0, .int .i64 0] 24 (0, 0))) ∧ Aside0 (Below w.heap.size w wc)) ?_ ?_
 ·
  intro _ _ _ _
  have H := HC4.out
  clear HC4
  replace H := Option.bind_eq_some_iff.mp H
  obtain ⟨t155, A70, H⟩ := H
  replace H : (if t155 = true then (if a2 < 1 then (drv_Set.j0 k a1 a2 true a0_0 a0_1 a0_2 a0_3 a0_4 a0_5 a0_6 a0_7 a0_8) else (drv_Set.j0 k a1 a2 (decide (a2 > 250)) a0_0 a0_1 a0_2 a0_3 a0_4 a0_5 a0_6 a0_7 a0_8)) else (drv_Set.j0 k a1 a2 true a0_0 a0_1 a0_2 a0_3 a0_4 a0_5 a0_6 a0_7 a0_8)) = some (r1, r2, r3, r4, r5, r6, r7, r8, r9, r10) := H
  have A7 := Aside0.mk A70
  clear A70
  by_cases c8 : t155 = true
  ·subst c8
   have H1 : (if a2 < 1 then (drv_Set.j0 k a1 a2 true a0_0 a0_1 a0_2 a0_3 a0_4 a0_5 a0_6 a0_7 a0_8) else (drv_Set.j0 k a1 a2 (decide (a2 > 250)) a0_0 a0_1 a0_2 a0_3 a0_4 a0_5 a0_6 a0_7 a0_8)) = some (r1, r2, r3, r4, r5, r6, r7, r8, r9, r10) := by rw [if_pos rfl] at H; exact H
   clear H
   have H := H1
   clear H1
   by_cases c9 : a2 < 1
   ·rw [if_pos c9] at H
    have c9b0 : decide (a2 < 1) = true := decide_eq_true c9
    clear c9
    (first | rw [c9b0] | (simp only [i64_w, i32_w]; rw [c9b0]) | skip)
    have H' := Aside0.mk H
    clear H; have b10 := NB153_154.out; have d10 := NB154_153.out
    obtain ⟨z11_0, z11_1, z11_2, z11_3, z11_4, z11_5, z11_6, z11_7, z11_8⟩ := Sq.c9 BK153.out
    obtain ⟨y11_0, y11_1, y11_2, y11_3, y11_4, y11_5, y11_6, y11_7, y11_8⟩ := Sq.f9 BK153.out
    go_wp2_with (first | (go_at_call 32; (with_reducible refine (drv_Good.calls a0_0 a0_1 a0_2 a0_3 a0_4 a0_5 a0_6 a0_7 a0_8 true _ A7.out).mono ?_); rintro e w12 ⟨rfl, hb⟩; replace BK153 := Sq.sb BK153 hb; replace BK154 := Sq.sb BK154 hb; replace HB := Sq.sw HB hb; (try clear hb); (try clear hb2); (try clear hk); (try clear hi)))
    repeat (go_quiet (first | (go_at_call 32; (with_reducible refine (drv_Good.calls a0_0 a0_1 a0_2 a0_3 a0_4 a0_5 a0_6 a0_7 a0_8 true _ A7.out).mono ?_); rintro e w12 ⟨rfl, hb⟩; replace BK153 := Sq.sb BK153 hb; replace BK154 := Sq.sb BK154 hb; replace HB := Sq.sw HB hb; (try clear hb); (try clear hb2); (try clear hk); (try clear hi))); try go_wp2_with (first | (go_at_call 32; (with_reducible refine (drv_Good.calls a0_0 a0_1 a0_2 a0_3 a0_4 a0_5 a0_6 a0_7 a0_8 true _ A7.out).mono ?_); rintro e w12 ⟨rfl, hb⟩; replace BK153 := Sq.sb BK153 hb; replace BK154 := Sq.sb BK154 hb; replace HB := Sq.sw HB hb; (try clear hb); (try clear hb2); (try clear hk); (try clear hi))))
    refine Cu.meet (by assumption) ?_ (by kernel_rfl) (by kernel_rfl)
    try dsimp only [Cu.pick, Cu.rep, Cu.nth]
    exact ⟨_, (true), Sq.e, H', ⟨by first | omega | exact Nat.le_refl _⟩, ⟨Sq.b BK153.out⟩, ⟨Sq.b BK154.out⟩, ⟨Sq.w HB.out⟩⟩
   ·rw [if_neg c9] at H
    have c9b0 : decide (a2 < 1) = false := decide_eq_false c9
    clear c9
    (first | rw [c9b0] | (simp only [i64_w, i32_w]; rw [c9b0]) | skip)
    have H' := Aside0.mk H
    clear H; have b13 := NB153_154.out; have d13 := NB154_153.out
    obtain ⟨z14_0, z14_1, z14_2, z14_3, z14_4, z14_5, z14_6, z14_7, z14_8⟩ := Sq.c9 BK153.out
    obtain ⟨y14_0, y14_1, y14_2, y14_3, y14_4, y14_5, y14_6, y14_7, y14_8⟩ := Sq.f9 BK153.out
    go_wp2_with (first | (go_at_call 32; (with_reducible refine (drv_Good.calls a0_0 a0_1 a0_2 a0_3 a0_4 a0_5 a0_6 a0_7 a0_8 true _ A7.out).mono ?_); rintro e w15 ⟨rfl, hb⟩; replace BK153 := Sq.sb BK153 hb; replace BK154 := Sq.sb BK154 hb; replace HB := Sq.sw HB hb; (try clear hb); (try clear hb2); (try clear hk); (try clear hi)))
    repeat (go_quiet (first | (go_at_call 32; (with_reducible refine (drv_Good.calls a0_0 a0_1 a0_2 a0_3 a0_4 a0_5 a0_6 a0_7 a0_8 true _ A7.out).mono ?_); rintro e w15 ⟨rfl, hb⟩; replace BK153 := Sq.sb BK153 hb; replace BK154 := Sq.sb BK154 hb; replace HB := Sq.sw HB hb; (try clear hb); (try clear hb2); (try clear hk); (try clear hi))); try go_wp2_with (first | (go_at_call 32; (with_reducible refine (drv_Good.calls a0_0 a0_1 a0_2 a0_3 a0_4 a0_5 a0_6 a0_7 a0_8 true _ A7.out).mono ?_); rintro e w15 ⟨rfl, hb⟩; replace BK153 := Sq.sb BK153 hb; replace BK154 := Sq.sb BK154 hb; replace HB := Sq.sw HB hb; (try clear hb); (try clear hb2); (try clear hk); (try clear hi))))
    refine Cu.meet (by assumption) ?_ (by kernel_rfl) (by kernel_rfl)
    try dsimp only [Cu.pick, Cu.rep, Cu.nth]
    exact ⟨_, (decide (a2 > 250)), Sq.e, H', ⟨by first | omega | exact Nat.le_refl _⟩, ⟨Sq.b BK153.out⟩, ⟨Sq.b BK154.out⟩, ⟨Sq.w HB.out⟩⟩
  ·replace c8 := Bool.eq_false_iff.mpr c8
   subst c8
   have H1 : (drv_Set.j0 k a1 a2 true a0_0 a0_1 a0_2 a0_3 a0_4 a0_5 a0_6 a0_7 a0_8) = some (r1, r2, r3, r4, r5, r6, r7, r8, r9, r10) := by rw [if_neg (show ¬ (false = true) by decide)] at H; exact H
   clear H
   have H := H1
   clear H1
   have H' := Aside0.mk H
   clear H; have b16 := NB153_154.out; have d16 := NB154_153.out
   obtain ⟨z17_0, z17_1, z17_2, z17_3, z17_4, z17_5, z17_6, z17_7, z17_8⟩ := Sq.c9 BK153.out
   obtain ⟨y17_0, y17_1, y17_2, y17_3, y17_4, y17_5, y17_6, y17_7, y17_8⟩ := Sq.f9 BK153.out
   go_wp2_with (first | (go_at_call 32; (with_reducible refine (drv_Good.calls a0_0 a0_1 a0_2 a0_3 a0_4 a0_5 a0_6 a0_7 a0_8 false _ A7.out).mono ?_); rintro e w18 ⟨rfl, hb⟩; replace BK153 := Sq.sb BK153 hb; replace BK154 := Sq.sb BK154 hb; replace HB := Sq.sw HB hb; (try clear hb); (try clear hb2); (try clear hk); (try clear hi)))
   repeat (go_quiet (first | (go_at_call 32; (with_reducible refine (drv_Good.calls a0_0 a0_1 a0_2 a0_3 a0_4 a0_5 a0_6 a0_7 a0_8 false _ A7.out).mono ?_); rintro e w18 ⟨rfl, hb⟩; replace BK153 := Sq.sb BK153 hb; replace BK154 := Sq.sb BK154 hb; replace HB := Sq.sw HB hb; (try clear hb); (try clear hb2); (try clear hk); (try clear hi))); try go_wp2_with (first | (go_at_call 32; (with_reducible refine (drv_Good.calls a0_0 a0_1 a0_2 a0_3 a0_4 a0_5 a0_6 a0_7 a0_8 false _ A7.out).mono ?_); rintro e w18 ⟨rfl, hb⟩; replace BK153 := Sq.sb BK153 hb; replace BK154 := Sq.sb BK154 hb; replace HB := Sq.sw HB hb; (try clear hb); (try clear hb2); (try clear hk); (try clear hi))))
   refine Cu.meet (by assumption) ?_ (by kernel_rfl) (by kernel_rfl)
   try dsimp only [Cu.pick, Cu.rep, Cu.nth]
   exact ⟨_, (true), Sq.e, H', ⟨by first | omega | exact Nat.le_refl _⟩, ⟨Sq.b BK153.out⟩, ⟨Sq.b BK154.out⟩, ⟨Sq.w HB.out⟩⟩
 ·
  intro wc u10 u11 u12 u13 u14 u15 u16 u17 u18 u19 u20 u21 u22 u23 u24 u25 u26 u27 u28 u29 u30 u31 u32 u35 u36 u38 u39 u40 u42 u43 u44 u46 u47 u48 u49 u50 u51 u52 u53 u54 u55 u56 u57 u58 u59 u60 u61 u62 u63 u64 u65 u66 u67 u68 u69 u70 u71 u72
  try dsimp only [Cu.over, Cu.rep, Cu.nth]
  intro hcut
  clear HC4
  obtain ⟨kq, x20_3, rfl, HA, HJ3, BK153, BK154, HB⟩ := hcut
  cases kq with
  | zero => exact absurd HA.out (by simp [drv_Set.j0])
  | succ kj3 =>
   have H := HA.out
   clear HA
   simp only [drv_Set.j0] at H
   by_cases c19 : x20_3 = true
   ·subst c19
    have H1 : (some (0, 0, false, 0, 0, 0, false, 0, 0, 1)) = some (r1, r2, r3, r4, r5, r6, r7, r8, r9, r10) := by rw [if_pos rfl] at H; exact H
    clear H
    have H := H1
    clear H1
    simp only [Option.some.injEq, Prod.mk.injEq] at H
    obtain ⟨rfl, rfl, rfl, rfl, rfl, rfl, rfl, rfl, rfl, rfl⟩ := H
    have b20 := NB154_153.out; have d20 := NB153_154.out
    obtain ⟨z21_0, z21_1, z21_2, z21_3, z21_4, z21_5, z21_6, z21_7, z21_8⟩ := Sq.c9 BK154.out
    obtain ⟨y21_0, y21_1, y21_2, y21_3, y21_4, y21_5, y21_6, y21_7, y21_8⟩ := Sq.f9 BK154.out
    go_wp2
    repeat (go_quiet (fail); try go_wp2)
    refine bodyPost_ret (results_ct rfl _ _ gb154 24 #[.int .i64 0, .int .i64 0, .bool false, .int .i64 0, .int .i64 0, .int .i64 0, .bool false, .int .i64 0, .int .i64 0] (0, 0) _ rfl (Sq.B BK154.out) Try.underlying24 rfl (by kernel_rfl)) rfl ?_
    exact ⟨by first | rfl | (simp [errW_none, errW_some] <;> rfl) | (simp [*, errW_none, errW_some] <;> rfl), Sq.w HB.out⟩
   ·replace c19 := Bool.eq_false_iff.mpr c19
    subst c19
    have H1 : (if a0_4 = 7 then (drv_Set.j1 kj3 a1 a0_4 (a2 != a0_3) a0_4 (a0_4 == 7) a0_0 a0_1 a1 a2 a0_4 a0_5 a0_6 a0_7 a0_8) else (drv_Set.j1 kj3 a1 a0_4 (a2 != a0_3) a0_4 (a0_4 == 8) a0_0 a0_1 a1 a2 a0_4 a0_5 a0_6 a0_7 a0_8)) = some (r1, r2, r3, r4, r5, r6, r7, r8, r9, r10) := by rw [if_neg (show ¬ (false = true) by decide)] at H; exact H
    clear H
    have H := H1
    clear H1
    have HC22 := Aside0.mk H
    clear H; have b23 := NB153_154.out; have d23 := NB154_153.out
    obtain ⟨z24_0, z24_1, z24_2, z24_3, z24_4, z24_5, z24_6, z24_7, z24_8⟩ := Sq.c9 BK153.out
    obtain ⟨y24_0, y24_1, y24_2, y24_3, y24_4, y24_5, y24_6, y24_7, y24_8⟩ := Sq.f9 BK153.out
    go_upto_block 0 with (fail)
    repeat (go_quiet (fail); go_upto_block 0 with (fail))
    refine Cu.wp_cut (Cu.rep 10 Cu.f (Cu.rep 23 Cu.t (Cu.rep 1 Cu.f (Cu.rep 39 Cu.t [])))) 62 (fun _ wc => ∃ (kq : Nat) (x154004_21 : Int), Aside0 (drv_Set.j3 kq a1 a0_4 a0_0 a0_1 a1 a2 x154004_21 a0_5 a0_6 a0_7 a0_8 = some (r1, r2, r3, r4, r5, r6, r7, r8, r9, r10)) ∧ Aside0 (kq ≤ kj3) ∧ Aside0 (wc.heap[gb153]? = some (.cells #[.int .i64 a0_0, .int .i64 a0_1, .bool a1, .int .i64 a2, .int .i64 x154004_21, .int .i64 a0_5, .bool a0_6, .int .i64 a0_7, .int .i64 a0_8] 24 (0, 0))) ∧ Aside0 (wc.heap[gb154]? = some (.cells #[.int .i64 0, .int .i64 0, .bool false, .int .i64 0, .int .i64 0, .int .i64 0, .bool false, .int .i64 0, .int .i64 0] 24 (0, 0))) ∧ Aside0 (Below w.heap.size w wc)) ?_ ?_
    ·
     intro _ _ _ _
     have H := HC22.out
     clear HC22
     have HC25 := Aside0.mk H
     clear H
     go_upto_if 34 with (fail)
     repeat (go_quiet (fail); go_upto_if 34 with (fail))
     refine Cu.wp_cut (Cu.rep 10 Cu.f (Cu.rep 23 Cu.t (Cu.rep 1 Cu.f (Cu.rep 3 Cu.t (Cu.rep 1 Cu.f (Cu.rep 3 Cu.t (Cu.rep 1 Cu.f (Cu.rep 3 Cu.t (Cu.rep 1 Cu.f (Cu.rep 27 Cu.t [])))))))))) 59 (fun us_ wc => ∃ (kq : Nat) (x34_24 : Bool), (Cu.nth us_ 23) = .bool x34_24 ∧ Aside0 (drv_Set.j1 kq a1 a0_4 (a2 != a0_3) a0_4 x34_24 a0_0 a0_1 a1 a2 a0_4 a0_5 a0_6 a0_7 a0_8 = some (r1, r2, r3, r4, r5, r6, r7, r8, r9, r10)) ∧ Aside0 (kq ≤ kj3) ∧ Aside0 (wc.heap[gb153]? = some (.cells #[.int .i64 a0_0, .int .i64 a0_1, .bool a1, .int .i64 a2, .int .i64 a0_4, .int .i64 a0_5, .bool a0_6, .int .i64 a0_7, .int .i64 a0_8] 24 (0, 0))) ∧ Aside0 (wc.heap[gb154]? = some (.cells #[.int .i64 0, .int .i64 0, .bool false, .int .i64 0, .int .i64 0, .int .i64 0, .bool false, .int .i64 0, .int .i64 0] 24 (0, 0))) ∧ Aside0 (Below w.heap.size w wc)) ?_ ?_
     ·
      intro _ _ _ _
      have H := HC25.out
      clear HC25
      by_cases c26 : a0_4 = 7
      ·rw [if_pos c26] at H
       have c26b0 : (a0_4 == 7) = true := beq_iff_eq.mpr c26
       have c26b1 : (a0_4 != 7) = false := bne_eq_false_iff_eq.mpr c26
       clear c26
       (first | rw [c26b0] | (simp only [i64_w, i32_w]; rw [c26b0]) | skip)
       have H' := Aside0.mk H
       clear H
       go_wp2
       repeat (go_quiet (fail); try go_wp2)
       refine Cu.meet (by assumption) ?_ (by kernel_rfl) (by kernel_rfl)
       try dsimp only [Cu.pick, Cu.rep, Cu.nth]
       exact ⟨_, ((a0_4 == 7)), Sq.e, H', ⟨by have := HJ3.out; first | omega | exact Nat.le_refl _⟩, ⟨Sq.B BK153.out⟩, ⟨Sq.F BK154.out⟩, ⟨Sq.w HB.out⟩⟩
      ·rw [if_neg c26] at H
       have c26b0 : (a0_4 == 7) = false := beq_eq_false_iff_ne.mpr c26
       have c26b1 : (a0_4 != 7) = true := bne_iff_ne.mpr c26
       (first | rw [c26b0] | (simp only [i64_w, i32_w]; rw [c26b0]) | skip)
       have H' := Aside0.mk H
       clear H
       go_wp2
       repeat (go_quiet (fail); try go_wp2)
       refine Cu.meet (by assumption) ?_ (by kernel_rfl) (by kernel_rfl)
       try dsimp only [Cu.pick, Cu.rep, Cu.nth]
       exact ⟨_, ((a0_4 == 8)), Sq.e, H', ⟨by have := HJ3.out; first | omega | exact Nat.le_refl _⟩, ⟨Sq.B BK153.out⟩, ⟨Sq.F BK154.out⟩, ⟨Sq.w HB.out⟩⟩
     ·
      intro wc u10 u11 u12 u13 u14 u15 u16 u17 u18 u19 u20 u21 u22 u23 u24 u25 u26 u27 u28 u29 u30 u31 u32 u34 u35 u36 u38 u39 u40 u42 u43 u44 u46 u47 u48 u49 u50 u51 u52 u53 u54 u55 u56 u57 u58 u59 u60 u61 u62 u63 u64 u65 u66 u67 u68 u69 u70 u71 u72
      try dsimp only [Cu.over, Cu.rep, Cu.nth]
      intro hcut
      clear HC25; (try clear c19); (try clear z24_0 z24_1 z24_2 z24_3 z24_4 z24_5 z24_6 z24_7 z24_8); (try clear y24_0 y24_1 y24_2 y24_3 y24_4 y24_5 y24_6 y24_7 y24_8)
      obtain ⟨kq, x34_24, rfl, HA, HJ24, BK153, BK154, HB⟩ := hcut
      cases kq with
      | zero => exact absurd HA.out (by simp [drv_Set.j1])
      | succ kj24 =>
       have H := HA.out
       clear HA
       simp only [drv_Set.j1] at H
       by_cases c27 : x34_24 = true
       ·subst c27
        have H1 : (drv_Set.j3 kj24 a1 a0_4 a0_0 a0_1 a1 a2 a0_4 a0_5 a0_6 a0_7 a0_8) = some (r1, r2, r3, r4, r5, r6, r7, r8, r9, r10) := by rw [if_pos rfl] at H; exact H
        clear H
        have H := H1
        clear H1
        have H' := Aside0.mk H
        clear H
        go_wp2
        repeat (go_quiet (fail); try go_wp2)
        refine Cu.meet (by assumption) ?_ (by kernel_rfl) (by kernel_rfl)
        try dsimp only [Cu.pick, Cu.rep, Cu.nth]
        exact ⟨_, (a0_4), H', ⟨by have := HJ3.out; have := HJ24.out; first | omega | exact Nat.le_refl _⟩, ⟨Sq.b BK153.out⟩, ⟨Sq.b BK154.out⟩, ⟨Sq.w HB.out⟩⟩
       ·replace c27 := Bool.eq_false_iff.mpr c27
        subst c27
        have H1 : (if a0_4 = 0 then (if a1 = true then (drv_Set.j3 kj24 a1 a0_4 a0_0 a0_1 a1 a2 1 a0_5 a0_6 a0_7 a0_8) else (drv_Set.j3 kj24 a1 a0_4 a0_0 a0_1 a1 a2 a0_4 a0_5 a0_6 a0_7 a0_8)) else (if a0_4 = 6 then (if a1 = true then (drv_Set.j3 kj24 a1 a0_4 a0_0 a0_1 a1 a2 1 a0_5 a0_6 a0_7 a0_8) else (drv_Set.j3 kj24 a1 a0_4 a0_0 a0_1 a1 a2 a0_4 a0_5 a0_6 a0_7 a0_8)) else (if a0_4 = 3 then (drv_Set.j2 kj24 a1 a0_4 (a2 != a0_3) (a0_4 == 3) a0_0 a0_1 a1 a2 a0_4 a0_5 a0_6 a0_7 a0_8) else (if a0_4 = 4 then (drv_Set.j2 kj24 a1 a0_4 (a2 != a0_3) (a0_4 == 4) a0_0 a0_1 a1 a2 a0_4 a0_5 a0_6 a0_7 a0_8) else (drv_Set.j2 kj24 a1 a0_4 (a2 != a0_3) (a0_4 == 5) a0_0 a0_1 a1 a2 a0_4 a0_5 a0_6 a0_7 a0_8))))) = some (r1, r2, r3, r4, r5, r6, r7, r8, r9, r10) := by rw [if_neg (show ¬ (false = true) by decide)] at H; exact H
        clear H
        have H := H1
        clear H1
        by_cases c28 : a0_4 = 0
        ·rw [if_pos c28] at H
         have c28b0 : (a0_4 == 0) = true := beq_iff_eq.mpr c28
         have c28b1 : (a0_4 != 0) = false := bne_eq_false_iff_eq.mpr c28
         clear c28
         by_cases c29 : a1 = true
         ·subst c29
          have H1 : (drv_Set.j3 kj24 true a0_4 a0_0 a0_1 true a2 1 a0_5 a0_6 a0_7 a0_8) = some (r1, r2, r3, r4, r5, r6, r7, r8, r9, r10) := by rw [if_pos rfl] at H; exact H
          clear H
          have H := H1
          clear H1
          have H' := Aside0.mk H
          clear H; have b30 := NB153_154.out; have d30 := NB154_153.out
          obtain ⟨z31_0, z31_1, z31_2, z31_3, z31_4, z31_5, z31_6, z31_7, z31_8⟩ := Sq.c9 BK153.out
          obtain ⟨y31_0, y31_1, y31_2, y31_3, y31_4, y31_5, y31_6, y31_7, y31_8⟩ := Sq.f9 BK153.out
          go_wp2
          repeat (go_quiet (fail); try go_wp2)
          refine Cu.meet (by assumption) ?_ (by kernel_rfl) (by kernel_rfl)
          try dsimp only [Cu.pick, Cu.rep, Cu.nth]
          exact ⟨_, (1), H', ⟨by have := HJ3.out; have := HJ24.out; first | omega | exact Nat.le_refl _⟩, ⟨Sq.B BK153.out⟩, ⟨Sq.F BK154.out⟩, ⟨Sq.w HB.out⟩⟩
         ·replace c29 := Bool.eq_false_iff.mpr c29
          subst c29
          have H1 : (drv_Set.j3 kj24 false a0_4 a0_0 a0_1 false a2 a0_4 a0_5 a0_6 a0_7 a0_8) = some (r1, r2, r3, r4, r5, r6, r7, r8, r9, r10) := by rw [if_neg (show ¬ (false = true) by decide)] at H; exact H
          clear H
          have H := H1
          clear H1
          have H' := Aside0.mk H
          clear H
          go_wp2
          repeat (go_quiet (fail); try go_wp2)
          refine Cu.meet (by assumption) ?_ (by kernel_rfl) (by kernel_rfl)
          try dsimp only [Cu.pick, Cu.rep, Cu.nth]
          exact ⟨_, (a0_4), H', ⟨by have := HJ3.out; have := HJ24.out; first | omega | exact Nat.le_refl _⟩, ⟨Sq.b BK153.out⟩, ⟨Sq.b BK154.out⟩, ⟨Sq.w HB.out⟩⟩
        ·rw [if_neg c28] at H
         have c28b0 : (a0_4 == 0) = false := beq_eq_false_iff_ne.mpr c28
         have c28b1 : (a0_4 != 0) = true := bne_iff_ne.mpr c28
         by_cases c32 : a0_4 = 6
         ·rw [if_pos c32] at H
          have c32b0 : (a0_4 == 6) = true := beq_iff_eq.mpr c32
          have c32b1 : (a0_4 != 6) = false := bne_eq_false_iff_eq.mpr c32
          clear c32
          by_cases c33 : a1 = true
          ·subst c33
           have H1 : (drv_Set.j3 kj24 true a0_4 a0_0 a0_1 true a2 1 a0_5 a0_6 a0_7 a0_8) = some (r1, r2, r3, r4, r5, r6, r7, r8, r9, r10) := by rw [if_pos rfl] at H; exact H
           clear H
           have H := H1
           clear H1
           have H' := Aside0.mk H
           clear H; have b34 := NB153_154.out; have d34 := NB154_153.out
           obtain ⟨z35_0, z35_1, z35_2, z35_3, z35_4, z35_5, z35_6, z35_7, z35_8⟩ := Sq.c9 BK153.out
           obtain ⟨y35_0, y35_1, y35_2, y35_3, y35_4, y35_5, y35_6, y35_7, y35_8⟩ := Sq.f9 BK153.out
           go_wp2
           repeat (go_quiet (fail); try go_wp2)
           refine Cu.meet (by assumption) ?_ (by kernel_rfl) (by kernel_rfl)
           try dsimp only [Cu.pick, Cu.rep, Cu.nth]
           exact ⟨_, (1), H', ⟨by have := HJ3.out; have := HJ24.out; first | omega | exact Nat.le_refl _⟩, ⟨Sq.B BK153.out⟩, ⟨Sq.F BK154.out⟩, ⟨Sq.w HB.out⟩⟩
          ·replace c33 := Bool.eq_false_iff.mpr c33
           subst c33
           have H1 : (drv_Set.j3 kj24 false a0_4 a0_0 a0_1 false a2 a0_4 a0_5 a0_6 a0_7 a0_8) = some (r1, r2, r3, r4, r5, r6, r7, r8, r9, r10) := by rw [if_neg (show ¬ (false = true) by decide)] at H; exact H
           clear H
           have H := H1
           clear H1
           have H' := Aside0.mk H
           clear H
           go_wp2
           repeat (go_quiet (fail); try go_wp2)
           refine Cu.meet (by assumption) ?_ (by kernel_rfl) (by kernel_rfl)
           try dsimp only [Cu.pick, Cu.rep, Cu.nth]
           exact ⟨_, (a0_4), H', ⟨by have := HJ3.out; have := HJ24.out; first | omega | exact Nat.le_refl _⟩, ⟨Sq.b BK153.out⟩, ⟨Sq.b BK154.out⟩, ⟨Sq.w HB.out⟩⟩
         ·rw [if_neg c32] at H
          have c32b0 : (a0_4 == 6) = false := beq_eq_false_iff_ne.mpr c32
          have c32b1 : (a0_4 != 6) = true := bne_iff_ne.mpr c32
          have HC36 := Aside0.mk H
          clear H
          go_upto_if 45 with (fail)
          repeat (go_quiet (fail); go_upto_if 45 with (fail))
          refine Cu.wp_cut (Cu.rep 10 Cu.f (Cu.rep 23 Cu.t (Cu.rep 2 Cu.f (Cu.rep 2 Cu.t (Cu.rep 1 Cu.f (Cu.rep 3 Cu.t (Cu.rep 1 Cu.f (Cu.rep 31 Cu.t [])))))))) 59 (fun us_ wc => ∃ (kq : Nat) (x45_35 : Bool), (Cu.nth us_ 31) = .bool x45_35 ∧ Aside0 (drv_Set.j2 kq a1 a0_4 (a2 != a0_3) x45_35 a0_0 a0_1 a1 a2 a0_4 a0_5 a0_6 a0_7 a0_8 = some (r1, r2, r3, r4, r5, r6, r7, r8, r9, r10)) ∧ Aside0 (kq ≤ kj24) ∧ Aside0 (wc.heap[gb153]? = some (.cells #[.int .i64 a0_0, .int .i64 a0_1, .bool a1, .int .i64 a2, .int .i64 a0_4, .int .i64 a0_5, .bool a0_6, .int .i64 a0_7, .int .i64 a0_8] 24 (0, 0))) ∧ Aside0 (wc.heap[gb154]? = some (.cells #[.int .i64 0, .int .i64 0, .bool false, .int .i64 0, .int .i64 0, .int .i64 0, .bool false, .int .i64 0, .int .i64 0] 24 (0, 0))) ∧ Aside0 (Below w.heap.size w wc)) ?_ ?_
          ·
           intro _ _ _ _
           have H := HC36.out
           clear HC36
           by_cases c37 : a0_4 = 3
           ·rw [if_pos c37] at H
            have c37b0 : (a0_4 == 3) = true := beq_iff_eq.mpr c37
            have c37b1 : (a0_4 != 3) = false := bne_eq_false_iff_eq.mpr c37
            clear c37
            (first | rw [c37b0] | (simp only [i64_w, i32_w]; rw [c37b0]) | skip)
            have H' := Aside0.mk H
            clear H
            go_wp2
            repeat (go_quiet (fail); try go_wp2)
            refine Cu.meet (by assumption) ?_ (by kernel_rfl) (by kernel_rfl)
            try dsimp only [Cu.pick, Cu.rep, Cu.nth]
            exact ⟨_, ((a0_4 == 3)), Sq.e, H', ⟨by have := HJ3.out; have := HJ24.out; first | omega | exact Nat.le_refl _⟩, ⟨Sq.b BK153.out⟩, ⟨Sq.b BK154.out⟩, ⟨Sq.w HB.out⟩⟩
           ·rw [if_neg c37] at H
            have c37b0 : (a0_4 == 3) = false := beq_eq_false_iff_ne.mpr c37
            have c37b1 : (a0_4 != 3) = true := bne_iff_ne.mpr c37
            (first | rw [c37b0] | (simp only [i64_w, i32_w]; rw [c37b0]) | skip)
            by_cases c38 : a0_4 = 4
            ·rw [if_pos c38] at H
             have c38b0 : (a0_4 == 4) = true := beq_iff_eq.mpr c38
             have c38b1 : (a0_4 != 4) = false := bne_eq_false_iff_eq.mpr c38
             clear c38
             have H' := Aside0.mk H
             clear H
             go_wp2
             repeat (go_quiet (fail); try go_wp2)
             refine Cu.meet (by assumption) ?_ (by kernel_rfl) (by kernel_rfl)
             try dsimp only [Cu.pick, Cu.rep, Cu.nth]
             exact ⟨_, ((a0_4 == 4)), Sq.e, H', ⟨by have := HJ3.out; have := HJ24.out; first | omega | exact Nat.le_refl _⟩, ⟨Sq.b BK153.out⟩, ⟨Sq.b BK154.out⟩, ⟨Sq.w HB.out⟩⟩
            ·rw [if_neg c38] at H
             have c38b0 : (a0_4 == 4) = false := beq_eq_false_iff_ne.mpr c38
             have c38b1 : (a0_4 != 4) = true := bne_iff_ne.mpr c38
             have H' := Aside0.mk H
             clear H
             go_wp2
             repeat (go_quiet (fail); try go_wp2)
             refine Cu.meet (by assumption) ?_ (by kernel_rfl) (by kernel_rfl)
             try dsimp only [Cu.pick, Cu.rep, Cu.nth]
             exact ⟨_, ((a0_4 == 5)), Sq.e, H', ⟨by have := HJ3.out; have := HJ24.out; first | omega | exact Nat.le_refl _⟩, ⟨Sq.b BK153.out⟩, ⟨Sq.b BK154.out⟩, ⟨Sq.w HB.out⟩⟩
          ·
           intro wc u10 u11 u12 u13 u14 u15 u16 u17 u18 u19 u20 u21 u22 u23 u24 u25 u26 u27 u28 u29 u30 u31 u32 u35 u36 u38 u39 u40 u42 u43 u44 u45 u46 u47 u48 u49 u50 u51 u52 u53 u54 u55 u56 u57 u58 u59 u60 u61 u62 u63 u64 u65 u66 u67 u68 u69 u70 u71 u72
           try dsimp only [Cu.over, Cu.rep, Cu.nth]
           intro hcut
           clear HC36; (try clear c27); (try clear c28); (try clear c28b0); (try clear c28b1); (try clear c32); (try clear c32b0); (try clear c32b1)
           obtain ⟨kq, x45_35, rfl, HA, HJ35, BK153, BK154, HB⟩ := hcut
           cases kq with
           | zero => exact absurd HA.out (by simp [drv_Set.j2])
           | succ kj35 =>
            have H := HA.out
            clear HA
            simp only [drv_Set.j2] at H
            by_cases c39 : x45_35 = true
            ·subst c39
             have H1 : (if (a2 != a0_3) = true then (drv_Set.j3 kj35 a1 a0_4 a0_0 a0_1 a1 a2 2 a0_5 a0_6 a0_7 a0_8) else (drv_Set.j3 kj35 a1 a0_4 a0_0 a0_1 a1 a2 a0_4 a0_5 a0_6 a0_7 a0_8)) = some (r1, r2, r3, r4, r5, r6, r7, r8, r9, r10) := by rw [if_pos rfl] at H; exact H
             clear H
             have H := H1
             clear H1
             by_cases c40 : (a2 != a0_3) = true
             ·rw [if_pos c40] at H
              have c40b0 : (a2 != a0_3) = true := c40
              (try (have c40b1 : decide (a2 = a0_3) = false := by simpa using c40))
              (try (have c40b2 : (a2 == a0_3) = false := by simpa using c40))
              (try (have c40b3 : ¬ (a2 = a0_3) := by simpa using c40))
              clear c40
              have H' := Aside0.mk H
              clear H; have b41 := NB153_154.out; have d41 := NB154_153.out
              obtain ⟨z42_0, z42_1, z42_2, z42_3, z42_4, z42_5, z42_6, z42_7, z42_8⟩ := Sq.c9 BK153.out
              obtain ⟨y42_0, y42_1, y42_2, y42_3, y42_4, y42_5, y42_6, y42_7, y42_8⟩ := Sq.f9 BK153.out
              go_wp2
              repeat (go_quiet (fail); try go_wp2)
              refine Cu.meet (by assumption) ?_ (by kernel_rfl) (by kernel_rfl)
              try dsimp only [Cu.pick, Cu.rep, Cu.nth]
              exact ⟨_, (2), H', ⟨by have := HJ3.out; have := HJ24.out; have := HJ35.out; first | omega | exact Nat.le_refl _⟩, ⟨Sq.B BK153.out⟩, ⟨Sq.F BK154.out⟩, ⟨Sq.w HB.out⟩⟩
             ·rw [if_neg c40] at H
              have c40b0 : (a2 != a0_3) = false := by simpa using c40
              (try (have c40b1 : decide (a2 = a0_3) = true := by simpa using c40))
              (try (have c40b2 : (a2 == a0_3) = true := by simpa using c40))
              clear c40
              have H' := Aside0.mk H
              clear H
              go_wp2
              repeat (go_quiet (fail); try go_wp2)
              refine Cu.meet (by assumption) ?_ (by kernel_rfl) (by kernel_rfl)
              try dsimp only [Cu.pick, Cu.rep, Cu.nth]
              exact ⟨_, (a0_4), H', ⟨by have := HJ3.out; have := HJ24.out; have := HJ35.out; first | omega | exact Nat.le_refl _⟩, ⟨Sq.b BK153.out⟩, ⟨Sq.b BK154.out⟩, ⟨Sq.w HB.out⟩⟩
            ·replace c39 := Bool.eq_false_iff.mpr c39
             subst c39
             have H1 : (drv_Set.j3 kj35 a1 a0_4 a0_0 a0_1 a1 a2 a0_4 a0_5 a0_6 a0_7 a0_8) = some (r1, r2, r3, r4, r5, r6, r7, r8, r9, r10) := by rw [if_neg (show ¬ (false = true) by decide)] at H; exact H
             clear H
             have H := H1
             clear H1
             have H' := Aside0.mk H
             clear H
             go_wp2
             repeat (go_quiet (fail); try go_wp2)
             refine Cu.meet (by assumption) ?_ (by kernel_rfl) (by kernel_rfl)
             try dsimp only [Cu.pick, Cu.rep, Cu.nth]
             exact ⟨_, (a0_4), H', ⟨by have := HJ3.out; have := HJ24.out; have := HJ35.out; first | omega | exact Nat.le_refl _⟩, ⟨Sq.b BK153.out⟩, ⟨Sq.b BK154.out⟩, ⟨Sq.w HB.out⟩⟩
    ·
     intro wc u10 u11 u12 u13 u14 u15 u16 u17 u18 u19 u20 u21 u22 u23 u24 u25 u26 u27 u28 u29 u30 u31 u32 u34 u35 u36 u37 u38 u39 u40 u41 u42 u43 u44 u45 u46 u47 u48 u49 u50 u51 u52 u53 u54 u55 u56 u57 u58 u59 u60 u61 u62 u63 u64 u65 u66 u67 u68 u69 u70 u71 u72
     try dsimp only [Cu.over, Cu.rep, Cu.nth]
     intro hcut
     clear HC22; (try clear c19); (try clear z24_0 z24_1 z24_2 z24_3 z24_4 z24_5 z24_6 z24_7 z24_8); (try clear y24_0 y24_1 y24_2 y24_3 y24_4 y24_5 y24_6 y24_7 y24_8)
     obtain ⟨kq, x154004_21, HA, HJ21, BK153, BK154, HB⟩ := hcut
     cases kq with
     | zero => exact absurd HA.out (by simp [drv_Set.j3])
     | succ kj21 =>
      have H := HA.out
      clear HA
      simp only [drv_Set.j3] at H
      have HC43 := Aside0.mk H
      clear H
      go_upto_region 19 with (fail)
      repeat (go_quiet (fail); go_upto_region 19 with (fail))
      refine Cu.wp_cut (Cu.rep 10 Cu.f (Cu.rep 23 Cu.t (Cu.rep 2 Cu.f (Cu.rep 2 Cu.t (Cu.rep 1 Cu.f (Cu.rep 3 Cu.t (Cu.rep 1 Cu.f (Cu.rep 3 Cu.t (Cu.rep 1 Cu.f (Cu.rep 27 Cu.t [])))))))))) 58 (fun us_ wc => ∃ (kq : Nat) (x64_42 : Bool), (Cu.nth us_ 49) = .bool x64_42 ∧ Aside0 (drv_Set.j4 kq a0_4 x64_42 a0_0 a0_1 a1 a2 x154004_21 a0_5 a0_6 a0_7 a0_8 = some (r1, r2, r3, r4, r5, r6, r7, r8, r9, r10)) ∧ Aside0 (kq ≤ kj21) ∧ Aside0 (wc.heap[gb153]? = some (.cells #[.int .i64 a0_0, .int .i64 a0_1, .bool a1, .int .i64 a2, .int .i64 x154004_21, .int .i64 a0_5, .bool a0_6, .int .i64 a0_7, .int .i64 a0_8] 24 (0, 0))) ∧ Aside0 (wc.heap[gb154]? = some (.cells #[.int .i64 0, .int .i64 0, .bool false, .int .i64 0, .int .i64 0, .int .i64 0, .bool false, .int .i64 0, .int .i64 0] 24 (0, 0))) ∧ Aside0 (Below w.heap.size w wc)) ?_ ?_
      ·
       intro _ _ _ _
       have H := HC43.out
       clear HC43
       by_cases c44 : a1 = true
       ·subst c44
        have H1 : (drv_Set.j4 kj21 a0_4 false a0_0 a0_1 true a2 x154004_21 a0_5 a0_6 a0_7 a0_8) = some (r1, r2, r3, r4, r5, r6, r7, r8, r9, r10) := by rw [if_pos rfl] at H; exact H
        clear H
        have H := H1
        clear H1
        have H' := Aside0.mk H
        clear H
        go_wp2
        repeat (go_quiet (fail); try go_wp2)
        refine Cu.meet (by assumption) ?_ (by kernel_rfl) (by kernel_rfl)
        try dsimp only [Cu.pick, Cu.rep, Cu.nth]
        exact ⟨_, (false), Sq.e, H', ⟨by have := HJ3.out; have := HJ21.out; first | omega | exact Nat.le_refl _⟩, ⟨Sq.b BK153.out⟩, ⟨Sq.b BK154.out⟩, ⟨Sq.w HB.out⟩⟩
       ·replace c44 := Bool.eq_false_iff.mpr c44
        subst c44
        have H1 : (if a0_4 = 0 then (drv_Set.j4 kj21 a0_4 false a0_0 a0_1 false a2 x154004_21 a0_5 a0_6 a0_7 a0_8) else (if a0_4 = 7 then (drv_Set.j4 kj21 a0_4 false a0_0 a0_1 false a2 x154004_21 a0_5 a0_6 a0_7 a0_8) else (drv_Set.j4 kj21 a0_4 (a0_4 != 8) a0_0 a0_1 false a2 x154004_21 a0_5 a0_6 a0_7 a0_8))) = some (r1, r2, r3, r4, r5, r6, r7, r8, r9, r10) := by rw [if_neg (show ¬ (false = true) by decide)] at H; exact H
        clear H
        have H := H1
        clear H1
        by_cases c45 : a0_4 = 0
        ·rw [if_pos c45] at H
         have c45b0 : (a0_4 == 0) = true := beq_iff_eq.mpr c45
         have c45b1 : (a0_4 != 0) = false := bne_eq_false_iff_eq.mpr c45
         clear c45
         (first | rw [c45b0] | (simp only [i64_w, i32_w]; rw [c45b0]) | skip)
         have H' := Aside0.mk H
         clear H
         go_wp2
         repeat (go_quiet (fail); try go_wp2)
         refine Cu.meet (by assumption) ?_ (by kernel_rfl) (by kernel_rfl)
         try dsimp only [Cu.pick, Cu.rep, Cu.nth]
         exact ⟨_, (false), Sq.e, H', ⟨by have := HJ3.out; have := HJ21.out; first | omega | exact Nat.le_refl _⟩, ⟨Sq.b BK153.out⟩, ⟨Sq.b BK154.out⟩, ⟨Sq.w HB.out⟩⟩
        ·rw [if_neg c45] at H
         have c45b0 : (a0_4 == 0) = false := beq_eq_false_iff_ne.mpr c45
         have c45b1 : (a0_4 != 0) = true := bne_iff_ne.mpr c45
         (first | rw [c45b0] | (simp only [i64_w, i32_w]; rw [c45b0]) | skip)
         by_cases c46 : a0_4 = 7
         ·rw [if_pos c46] at H
          have c46b0 : (a0_4 == 7) = true := beq_iff_eq.mpr c46
          have c46b1 : (a0_4 != 7) = false := bne_eq_false_iff_eq.mpr c46
          clear c46
          have H' := Aside0.mk H
          clear H
          go_wp2
          repeat (go_quiet (fail); try go_wp2)
          refine Cu.meet (by assumption) ?_ (by kernel_rfl) (by kernel_rfl)
          try dsimp only [Cu.pick, Cu.rep, Cu.nth]
          exact ⟨_, (false), Sq.e, H', ⟨by have := HJ3.out; have := HJ21.out; first | omega | exact Nat.le_refl _⟩, ⟨Sq.b BK153.out⟩, ⟨Sq.b BK154.out⟩, ⟨Sq.w HB.out⟩⟩
         ·rw [if_neg c46] at H
          have c46b0 : (a0_4 == 7) = false := beq_eq_false_iff_ne.mpr c46
          have c46b1 : (a0_4 != 7) = true := bne_iff_ne.mpr c46
          have H' := Aside0.mk H
          clear H
          go_wp2
          repeat (go_quiet (fail); try go_wp2)
          refine Cu.meet (by assumption) ?_ (by kernel_rfl) (by kernel_rfl)
          try dsimp only [Cu.pick, Cu.rep, Cu.nth]
          exact ⟨_, ((a0_4 != 8)), Sq.e, H', ⟨by have := HJ3.out; have := HJ21.out; first | omega | exact Nat.le_refl _⟩, ⟨Sq.b BK153.out⟩, ⟨Sq.b BK154.out⟩, ⟨Sq.w HB.out⟩⟩
      ·
       intro wc u10 u11 u12 u13 u14 u15 u16 u17 u18 u19 u20 u21 u22 u23 u24 u25 u26 u27 u28 u29 u30 u31 u32 u35 u36 u38 u39 u40 u42 u43 u44 u46 u47 u48 u49 u50 u51 u52 u53 u54 u55 u56 u57 u58 u59 u60 u61 u62 u63 u64 u65 u66 u67 u68 u69 u70 u71 u72
       try dsimp only [Cu.over, Cu.rep, Cu.nth]
       intro hcut
       clear HC43
       obtain ⟨kq, x64_42, rfl, HA, HJ42, BK153, BK154, HB⟩ := hcut
       cases kq with
       | zero => exact absurd HA.out (by simp [drv_Set.j4])
       | succ kj42 =>
        have H := HA.out
        clear HA
        simp only [drv_Set.j4] at H
        by_cases c47 : x64_42 = true
        ·subst c47
         have H1 : (if 6 = a0_4 then (some (a0_0, a0_1, a1, a2, 6, a0_5, a0_6, a0_7, a0_8, 0)) else (some (a0_0, a0_1, a1, a2, 6, 0, a0_6, 0, a0_8, 0))) = some (r1, r2, r3, r4, r5, r6, r7, r8, r9, r10) := by rw [if_pos rfl] at H; exact H
         clear H
         have H := H1
         clear H1
         by_cases c48 : 6 = a0_4
         ·rw [if_pos c48] at H
          have c48b0 : (6 == a0_4) = true := beq_iff_eq.mpr c48
          have c48b1 : (6 != a0_4) = false := bne_eq_false_iff_eq.mpr c48
          clear c48
          simp only [Option.some.injEq, Prod.mk.injEq] at H
          obtain ⟨rfl, rfl, rfl, rfl, rfl, rfl, rfl, rfl, rfl, rfl⟩ := H
          have b49 := NB153_154.out; have d49 := NB154_153.out
          obtain ⟨z50_0, z50_1, z50_2, z50_3, z50_4, z50_5, z50_6, z50_7, z50_8⟩ := Sq.c9 BK153.out
          obtain ⟨y50_0, y50_1, y50_2, y50_3, y50_4, y50_5, y50_6, y50_7, y50_8⟩ := Sq.f9 BK153.out
          obtain ⟨z51_0, z51_1, z51_2, z51_3, z51_4, z51_5, z51_6, z51_7, z51_8⟩ := Sq.c9 BK154.out
          obtain ⟨y51_0, y51_1, y51_2, y51_3, y51_4, y51_5, y51_6, y51_7, y51_8⟩ := Sq.f9 BK154.out
          go_wp2
          repeat (go_quiet (fail); try go_wp2)
          refine bodyPost_ret (results_ct rfl _ _ gb154 24 #[.int .i64 a0_0, .int .i64 a0_1, .bool a1, .int .i64 a2, .int .i64 6, .int .i64 a0_5, .bool a0_6, .int .i64 a0_7, .int .i64 a0_8] (0, 0) _ rfl (Sq.B BK154.out) Try.underlying24 rfl (by kernel_rfl)) rfl ?_
          exact ⟨by first | rfl | (simp [errW_none, errW_some] <;> rfl) | (simp [*, errW_none, errW_some] <;> rfl), Sq.w HB.out⟩
         ·rw [if_neg c48] at H
          have c48b0 : (6 == a0_4) = false := beq_eq_false_iff_ne.mpr c48
          have c48b1 : (6 != a0_4) = true := bne_iff_ne.mpr c48
          simp only [Option.some.injEq, Prod.mk.injEq] at H
          obtain ⟨rfl, rfl, rfl, rfl, rfl, rfl, rfl, rfl, rfl, rfl⟩ := H
          have b52 := NB153_154.out; have d52 := NB154_153.out
          obtain ⟨z53_0, z53_1, z53_2, z53_3, z53_4, z53_5, z53_6, z53_7, z53_8⟩ := Sq.c9 BK153.out
          obtain ⟨y53_0, y53_1, y53_2, y53_3, y53_4, y53_5, y53_6, y53_7, y53_8⟩ := Sq.f9 BK153.out
          obtain ⟨z54_0, z54_1, z54_2, z54_3, z54_4, z54_5, z54_6, z54_7, z54_8⟩ := Sq.c9 BK154.out
          obtain ⟨y54_0, y54_1, y54_2, y54_3, y54_4, y54_5, y54_6, y54_7, y54_8⟩ := Sq.f9 BK154.out
          go_wp2
          repeat (go_quiet (fail); try go_wp2)
          refine bodyPost_ret (results_ct rfl _ _ gb154 24 #[.int .i64 a0_0, .int .i64 a0_1, .bool a1, .int .i64 a2, .int .i64 6, .int .i64 0, .bool a0_6, .int .i64 0, .int .i64 a0_8] (0, 0) _ rfl (Sq.B BK154.out) Try.underlying24 rfl (by kernel_rfl)) rfl ?_
          exact ⟨by first | rfl | (simp [errW_none, errW_some] <;> rfl) | (simp [*, errW_none, errW_some] <;> rfl), Sq.w HB.out⟩
        ·replace c47 := Bool.eq_false_iff.mpr c47
         subst c47
         have H1 : (if x154004_21 = a0_4 then (some (a0_0, a0_1, a1, a2, x154004_21, a0_5, a0_6, a0_7, a0_8, 0)) else (some (a0_0, a0_1, a1, a2, x154004_21, 0, a0_6, 0, a0_8, 0))) = some (r1, r2, r3, r4, r5, r6, r7, r8, r9, r10) := by rw [if_neg (show ¬ (false = true) by decide)] at H; exact H
         clear H
         have H := H1
         clear H1
         by_cases c55 : x154004_21 = a0_4
         ·rw [if_pos c55] at H
          have c55b0 : (x154004_21 == a0_4) = true := beq_iff_eq.mpr c55
          have c55b1 : (x154004_21 != a0_4) = false := bne_eq_false_iff_eq.mpr c55
          clear c55
          simp only [Option.some.injEq, Prod.mk.injEq] at H
          obtain ⟨rfl, rfl, rfl, rfl, rfl, rfl, rfl, rfl, rfl, rfl⟩ := H
          have b56 := NB153_154.out; have d56 := NB154_153.out
          obtain ⟨z57_0, z57_1, z57_2, z57_3, z57_4, z57_5, z57_6, z57_7, z57_8⟩ := Sq.c9 BK153.out
          obtain ⟨y57_0, y57_1, y57_2, y57_3, y57_4, y57_5, y57_6, y57_7, y57_8⟩ := Sq.f9 BK153.out
          obtain ⟨z58_0, z58_1, z58_2, z58_3, z58_4, z58_5, z58_6, z58_7, z58_8⟩ := Sq.c9 BK154.out
          obtain ⟨y58_0, y58_1, y58_2, y58_3, y58_4, y58_5, y58_6, y58_7, y58_8⟩ := Sq.f9 BK154.out
          go_wp2
          repeat (go_quiet (fail); try go_wp2)
          refine bodyPost_ret (results_ct rfl _ _ gb154 24 #[.int .i64 a0_0, .int .i64 a0_1, .bool a1, .int .i64 a2, .int .i64 x154004_21, .int .i64 a0_5, .bool a0_6, .int .i64 a0_7, .int .i64 a0_8] (0, 0) _ rfl (Sq.B BK154.out) Try.underlying24 rfl (by kernel_rfl)) rfl ?_
          exact ⟨by first | rfl | (simp [errW_none, errW_some] <;> rfl) | (simp [*, errW_none, errW_some] <;> rfl), Sq.w HB.out⟩
         ·rw [if_neg c55] at H
          have c55b0 : (x154004_21 == a0_4) = false := beq_eq_false_iff_ne.mpr c55
          have c55b1 : (x154004_21 != a0_4) = true := bne_iff_ne.mpr c55
          simp only [Option.some.injEq, Prod.mk.injEq] at H
          obtain ⟨rfl, rfl, rfl, rfl, rfl, rfl, rfl, rfl, rfl, rfl⟩ := H
          have b59 := NB153_154.out; have d59 := NB154_153.out
          obtain ⟨z60_0, z60_1, z60_2, z60_3, z60_4, z60_5, z60_6, z60_7, z60_8⟩ := Sq.c9 BK153.out
          obtain ⟨y60_0, y60_1, y60_2, y60_3, y60_4, y60_5, y60_6, y60_7, y60_8⟩ := Sq.f9 BK153.out
          obtain ⟨z61_0, z61_1, z61_2, z61_3, z61_4, z61_5, z61_6, z61_7, z61_8⟩ := Sq.c9 BK154.out
          obtain ⟨y61_0, y61_1, y61_2, y61_3, y61_4, y61_5, y61_6, y61_7, y61_8⟩ := Sq.f9 BK154.out
          go_wp2
          repeat (go_quiet (fail); try go_wp2)
          refine bodyPost_ret (results_ct rfl _ _ gb154 24 #[.int .i64 a0_0, .int .i64 a0_1, .bool a1, .int .i64 a2, .int .i64 x154004_21, .int .i64 0, .bool a0_6, .int .i64 0, .int .i64 a0_8] (0, 0) _ rfl (Sq.B BK154.out) Try.underlying24 rfl (by kernel_rfl)) rfl ?_
          exact ⟨by first | rfl | (simp [errW_none, errW_some] <;> rfl) | (simp [*, errW_none, errW_some] <;> rfl), Sq.w HB.out⟩

/-! ### drv_New: function 16 -/
def drv_New.f (a0 : Int) (a1 : Int) : Option (Int × Int × Bool × Int × Int × Int × Bool × Int × Int × Int) := (drv_Good.f a0 a1 false 1 0 0 false 0 0).bind fun t158 => (if t158 = true then (some (a0, a1, false, 1, 0, 0, false, 0, 0, 0)) else (some (0, 0, false, 0, 0, 0, false, 0, 0, 1)))
set_option maxHeartbeats 8000000 in
set_option maxRecDepth 100000 in
theorem drv_New.calls (a0 : Int) (a1 : Int) (r1 : Int) (r2 : Int) (r3 : Bool) (r4 : Int) (r5 : Int) (r6 : Int) (r7 : Bool) (r8 : Int) (r9 : Int) (r10 : Int) (w : World) (h : drv_New.f a0 a1 = some (r1, r2, r3, r4, r5, r6, r7, r8, r9, r10)) :
  Calls Try.prog 16 #[.int .i64 a0, .int .i64 a1] w fun e w' => e = .returned (.tuple #[.agg #[.int .i64 r1, .int .i64 r2, .bool r3, .int .i64 r4, .int .i64 r5, .int .i64 r6, .bool r7, .int .i64 r8, .int .i64 r9], .int .i64 r10]) ∧ Below w.heap.size w w' := by
 have hu24 := Try.underlying24
 have HB := Aside0.mk (Below.refl w.heap.size w)
 have H : ((drv_Good.f a0 a1 false 1 0 0 false 0 0).bind fun t158 => (if t158 = true then (some (a0, a1, false, 1, 0, 0, false, 0, 0, 0)) else (some (0, 0, false, 0, 0, 0, false, 0, 0, 1)))) = some (r1, r2, r3, r4, r5, r6, r7, r8, r9, r10) := h
 clear h
 replace H := Option.bind_eq_some_iff.mp H
 obtain ⟨t158, A30, H⟩ := H
 replace H : (if t158 = true then (some (a0, a1, false, 1, 0, 0, false, 0, 0, 0)) else (some (0, 0, false, 0, 0, 0, false, 0, 0, 1))) = some (r1, r2, r3, r4, r5, r6, r7, r8, r9, r10) := H
 have A3 := Aside0.mk A30
 clear A30
 by_cases c4 : t158 = true
 ·subst c4
  have H1 : (some (a0, a1, false, 1, 0, 0, false, 0, 0, 0)) = some (r1, r2, r3, r4, r5, r6, r7, r8, r9, r10) := by rw [if_pos rfl] at H; exact H
  clear H
  have H := H1
  clear H1
  simp only [Option.some.injEq, Prod.mk.injEq] at H
  obtain ⟨rfl, rfl, rfl, rfl, rfl, rfl, rfl, rfl, rfl, rfl⟩ := H
  go_enter Try.func16, Try.ntmps16
  go_wp2_with (first | ((with_reducible refine gate_dst (N := 4) rfl ?_); refine box_event ?hg (N := 4) ?hd (cs := #[.int .i64 0, .int .i64 0, .bool false, .int .i64 0, .int .i64 0, .int .i64 0, .bool false, .int .i64 0, .int .i64 0]) (t := 24) ?hr ?_; (case hd => rfl); (case hg => rfl); (case hr => first | (go_simp; done) | (go_simp; rfl)); intro gb156 hg w5 hbox hb; have BK156 := Aside0.mk hbox; have GW156 := Sq.ge hg HB; have GE156 := Sq.ge hg HB; replace HB := Sq.sw HB hb; clear hb hbox hg) | ((with_reducible refine gate_dst (N := 6) rfl ?_); refine box_event ?hg (N := 6) ?hd (cs := #[.int .i64 0, .int .i64 0, .bool false, .int .i64 0, .int .i64 0, .int .i64 0, .bool false, .int .i64 0, .int .i64 0]) (t := 24) ?hr ?_; (case hd => rfl); (case hg => rfl); (case hr => first | (go_simp; done) | (go_simp; rfl)); intro gb157 hg w6 hbox hb; have BK157 := Aside0.mk hbox; have GW157 := Sq.ge hg HB; have GE157 := Sq.ge hg HB; obtain ⟨NB156_157, NB157_156⟩ := Sq.np hg BK156; replace BK156 := Sq.sb BK156 hb; replace HB := Sq.sw HB hb; clear hb hbox hg; have b7 := NB157_156.out; have d7 := NB156_157.out; obtain ⟨z8_0, z8_1, z8_2, z8_3, z8_4, z8_5, z8_6, z8_7, z8_8⟩ := Sq.c9 BK157.out; obtain ⟨y8_0, y8_1, y8_2, y8_3, y8_4, y8_5, y8_6, y8_7, y8_8⟩ := Sq.f9 BK157.out) | ((with_reducible refine gate_callee (f := 32) rfl ?_); refine goesL_ (some 11) rfl rfl Try.func32 (by kernel_rfl) rfl #[.agg #[.int .i64 a0, .int .i64 a1, .bool false, .int .i64 1, .int .i64 0, .int .i64 0, .bool false, .int .i64 0, .int .i64 0]] rfl Sq.m ?_; (with_reducible refine (drv_Good.calls a0 a1 false 1 0 0 false 0 0 true _ A3.out).mono ?_); rintro e w9 ⟨rfl, hb⟩; refine ⟨_, rfl, ?_⟩; replace BK156 := Sq.sF BK156 hb; replace BK157 := Aside0.mk (blk_below (g := gb157) (o := .cells #[.int .i64 a0, .int .i64 a1, .bool false, .int .i64 1, .int .i64 0, .int .i64 0, .bool false, .int .i64 0, .int .i64 0] 24 (0, 0)) (Sq.B BK157.out) hb); replace HB := Sq.sw HB hb; (try clear hb); (try clear hb2); (try clear hk); (try clear hi); obtain ⟨z10_0, z10_1, z10_2, z10_3, z10_4, z10_5, z10_6, z10_7, z10_8⟩ := Sq.c9 BK157.out; obtain ⟨y10_0, y10_1, y10_2, y10_3, y10_4, y10_5, y10_6, y10_7, y10_8⟩ := Sq.f9 BK157.out; obtain ⟨z11_0, z11_1, z11_2, z11_3, z11_4, z11_5, z11_6, z11_7, z11_8⟩ := Sq.c9 BK156.out; obtain ⟨y11_0, y11_1, y11_2, y11_3, y11_4, y11_5, y11_6, y11_7, y11_8⟩ := Sq.f9 BK156.out))
  refine bodyPost_ret (results_ct rfl _ _ gb156 24 #[.int .i64 a0, .int .i64 a1, .bool false, .int .i64 1, .int .i64 0, .int .i64 0, .bool false, .int .i64 0, .int .i64 0] (0, 0) _ rfl (Sq.B BK156.out) Try.underlying24 rfl (by kernel_rfl)) rfl ?_
  exact ⟨by first | rfl | (simp [errW_none, errW_some] <;> rfl) | (simp [*, errW_none, errW_some] <;> rfl), Sq.w HB.out⟩
 ·replace c4 := Bool.eq_false_iff.mpr c4
  subst c4
  have H1 : (some (0, 0, false, 0, 0, 0, false, 0, 0, 1)) = some (r1, r2, r3, r4, r5, r6, r7, r8, r9, r10) := by rw [if_neg (show ¬ (false = true) by decide)] at H; exact H
  clear H
  have H := H1
  clear H1
  simp only [Option.some.injEq, Prod.mk.injEq] at H
  obtain ⟨rfl, rfl, rfl, rfl, rfl, rfl, rfl, rfl, rfl, rfl⟩ := H
  go_enter Try.func16, Try.ntmps16
  go_wp2_with (first | ((with_reducible refine gate_dst (N := 4) rfl ?_); refine box_event ?hg (N := 4) ?hd (cs := #[.int .i64 0, .int .i64 0, .bool false, .int .i64 0, .int .i64 0, .int .i64 0, .bool false, .int .i64 0, .int .i64 0]) (t := 24) ?hr ?_; (case hd => rfl); (case hg => rfl); (case hr => first | (go_simp; done) | (go_simp; rfl)); intro gb156 hg w12 hbox hb; have BK156 := Aside0.mk hbox; have GW156 := Sq.ge hg HB; have GE156 := Sq.ge hg HB; replace HB := Sq.sw HB hb; clear hb hbox hg) | ((with_reducible refine gate_dst (N := 6) rfl ?_); refine box_event ?hg (N := 6) ?hd (cs := #[.int .i64 0, .int .i64 0, .bool false, .int .i64 0, .int .i64 0, .int .i64 0, .bool false, .int .i64 0, .int .i64 0]) (t := 24) ?hr ?_; (case hd => rfl); (case hg => rfl); (case hr => first | (go_simp; done) | (go_simp; rfl)); intro gb157 hg w13 hbox hb; have BK157 := Aside0.mk hbox; have GW157 := Sq.ge hg HB; have GE157 := Sq.ge hg HB; obtain ⟨NB156_157, NB157_156⟩ := Sq.np hg BK156; replace BK156 := Sq.sb BK156 hb; replace HB := Sq.sw HB hb; clear hb hbox hg; have b14 := NB157_156.out; have d14 := NB156_157.out; obtain ⟨z15_0, z15_1, z15_2, z15_3, z15_4, z15_5, z15_6, z15_7, z15_8⟩ := Sq.c9 BK157.out; obtain ⟨y15_0, y15_1, y15_2, y15_3, y15_4, y15_5, y15_6, y15_7, y15_8⟩ := Sq.f9 BK157.out) | ((with_reducible refine gate_callee (f := 32) rfl ?_); refine goesL_ (some 11) rfl rfl Try.func32 (by kernel_rfl) rfl #[.agg #[.int .i64 a0, .int .i64 a1, .bool false, .int .i64 1, .int .i64 0, .int .i64 0, .bool false, .int .i64 0, .int .i64 0]] rfl Sq.m ?_; (with_reducible refine (drv_Good.calls a0 a1 false 1 0 0 false 0 0 false _ A3.out).mono ?_); rintro e w16 ⟨rfl, hb⟩; refine ⟨_, rfl, ?_⟩; replace BK156 := Sq.sF BK156 hb; replace BK157 := Aside0.mk (blk_below (g := gb157) (o := .cells #[.int .i64 a0, .int .i64 a1, .bool false, .int .i64 1, .int .i64 0, .int .i64 0, .bool false, .int .i64 0, .int .i64 0] 24 (0, 0)) (Sq.B BK157.out) hb); replace HB := Sq.sw HB hb; (try clear hb); (try clear hb2); (try clear hk); (try clear hi); obtain ⟨z17_0, z17_1, z17_2, z17_3, z17_4, z17_5, z17_6, z17_7, z17_8⟩ := Sq.c9 BK156.out; obtain ⟨y17_0, y17_1, y17_2, y17_3, y17_4, y17_5, y17_6, y17_7, y17_8⟩ := Sq.f9 BK156.out))
  refine bodyPost_ret (results_ct rfl _ _ gb156 24 #[.int .i64 0, .int .i64 0, .bool false, .int .i64 0, .int .i64 0, .int .i64 0, .bool false, .int .i64 0, .int .i64 0] (0, 0) _ rfl (Sq.B BK156.out) Try.underlying24 rfl (by kernel_rfl)) rfl ?_
  exact ⟨by first | rfl | (simp [errW_none, errW_some] <;> rfl) | (simp [*, errW_none, errW_some] <;> rfl), Sq.w HB.out⟩

/-! ### gimballaw9_wakes: function 13 -/
-- given
def gimballaw9_wakes.f  : Option (Bool) := some true
set_option maxHeartbeats 4000000 in
theorem gimballaw9_wakes.calls  (r : Bool) (w : World) (h : gimballaw9_wakes.f  = some r) :
    Calls Try.prog 13 #[] w fun e w' => e = .returned (.bool r) ∧ Below w.heap.size w w' := by
  cases h
  have HN : Aside0 (drv_New.f 16 49 = some (16, 49, false, 1, 0, 0, false, 0, 0, 0)) := ⟨by kernel_rfl⟩
  have HS : Aside0 (drv_Set.f 9 16 49 false 1 0 0 false 0 0 true 10 = some (16, 49, true, 10, 1, 0, false, 0, 0, 0)) := ⟨by kernel_rfl⟩
  have HX : Aside0 (drv_Next.f 16 49 true 10 1 0 false 0 0 = some (16, 0, [], 1, true, 0)) := ⟨by kernel_rfl⟩
  go_enter Try.func13, Try.ntmps13
  go_wp2_with (first | (go_at_call 16; (with_reducible refine (drv_New.calls _ _ _ _ _ _ _ _ _ _ _ _ _ HN.out).mono ?_); rintro e w1 ⟨rfl, hb1⟩; have HB1 := Aside0.mk hb1; clear hb1) | (go_at_call 14; (with_reducible refine (drv_Set.calls 9 _ _ _ _ _ _ _ _ _ _ _ _ _ _ _ _ _ _ _ _ _ _ HS.out).mono ?_); rintro e w2 ⟨rfl, hb2⟩; have BK2 := Aside0.mk (blk_below (blk_new w1 (.cells #[.int .i64 16, .int .i64 49, .bool false, .int .i64 1, .int .i64 0, .int .i64 0, .bool false, .int .i64 0, .int .i64 0] 24)) hb2); have HB2 := Aside0.mk (below_step (below_alloc HB1.out _) hb2); have hz2 := HB1.out.size; clear hb2; obtain ⟨hc0, hc1, hc2, hc3, hc4, hc5, hc6, hc7, hc8⟩ := Sq.c9 BK2.out; obtain ⟨hf0, hf1, hf2, hf3, hf4, hf5, hf6, hf7, hf8⟩ := Sq.f9 BK2.out) | (go_at_call 9; (with_reducible refine (drv_Next.calls _ _ _ _ _ _ _ _ _ _ _ _ _ _ _ _ HX.out).mono ?_); rintro e w3 ⟨sv, rfl, hsv, hb3⟩; obtain ⟨A3, c3, rfl⟩ := Kd.R_slice hsv; have HB3 := Aside0.mk (below_step (Tk.below9 HB2.out hz2) hb3); clear hsv hb3) | (go_at_call 11; (with_reducible refine (gimballaw9_num.calls _ _ _ rfl).mono ?_); rintro e w' ⟨rfl, ⟨nd, rfl⟩⟩))
  go_ret
  exact ⟨rfl, pw_below_drewN (below_alloc HB3.out _) _⟩

/-! ### gimbalref9_Set: function 15 -/
-- given
def gimbalref9_Set.f (a0_0 : Int) (a0_1 : Int) (_a0_2 : Bool) (a0_3 : Int) (a0_4 : Int) (a0_5 : Int) (a0_6 : Bool) (a0_7 : Int) (a0_8 : Int) (a1 : Bool) (a2 : Int) : Option (Int × Int × Bool × Int × Int × Int × Bool × Int × Int) :=
  some (a0_0, a0_1, a1, a2, Dr.setS a0_4 a1 (a0_3 != a2), (if Dr.setS a0_4 a1 (a0_3 != a2) = a0_4 then a0_5 else 0), a0_6, (if Dr.setS a0_4 a1 (a0_3 != a2) = a0_4 then a0_7 else 0), a0_8)
theorem gimbalref9_Set.calls (a0_0 : Int) (a0_1 : Int) (a0_2 : Bool) (a0_3 : Int) (a0_4 : Int) (a0_5 : Int) (a0_6 : Bool) (a0_7 : Int) (a0_8 : Int) (a1 : Bool) (a2 : Int) (r1 : Int) (r2 : Int) (r3 : Bool) (r4 : Int) (r5 : Int) (r6 : Int) (r7 : Bool) (r8 : Int) (r9 : Int) (w : World) (h : gimbalref9_Set.f a0_0 a0_1 a0_2 a0_3 a0_4 a0_5 a0_6 a0_7 a0_8 a1 a2 = some (r1, r2, r3, r4, r5, r6, r7, r8, r9)) :
    Calls Try.prog 15 #[.agg #[.int .i64 a0_0, .int .i64 a0_1, .bool a0_2, .int .i64 a0_3, .int .i64 a0_4, .int .i64 a0_5, .bool a0_6, .int .i64 a0_7, .int .i64 a0_8], .bool a1, .int .i64 a2] w fun e w' => e = .returned (.agg #[.int .i64 r1, .int .i64 r2, .bool r3, .int .i64 r4, .int .i64 r5, .int .i64 r6, .bool r7, .int .i64 r8, .int .i64 r9]) ∧ Below w.heap.size w w' := by
  have h' := Option.some.inj h
  simp only [Prod.mk.injEq] at h'
  obtain ⟨rfl, rfl, rfl, rfl, hs, he, rfl, hl, rfl⟩ := h'
  subst hs
  exact Dr.refSet0 a0_0 a0_1 a0_2 a0_3 a0_4 a0_5 a0_6 a0_7 a0_8 a1 a2 w _ r6 r8 rfl he.symm hl.symm

/-! ### drv_good: function 35 -/
def drv_good.j0 : Nat → Bool → Int → Int → Bool → Int → Int → Int → Bool → Int → Int → Int → List Int → Option (Bool)
 | 0, _, _, _, _, _, _, _, _, _, _, _, _ => none
 | k + 1, x17, x160000, x160001, x160002, x160003, x160004, x160005, x160006, x160007, x160008, x162000, x162001 => if x17 = true then (some false) else (if x160004 = 1 then (if 0 < (x162001.length : Int) then (some ((wrap64 (rd x162001 0)) == x160001)) else (none)) else (if x160004 = 4 then (if 0 < (x162001.length : Int) then (some (decide ((wrap64 (rd x162001 0)) ≤ 16))) else (none)) else (some true)))
def drv_good.f (k : Nat) (a0_0 : Int) (a0_1 : Int) (a0_2 : Bool) (a0_3 : Int) (a0_4 : Int) (a0_5 : Int) (a0_6 : Bool) (a0_7 : Int) (a0_8 : Int) (a1_0 : Int) (a1_1 : Int) (l1_2 : List Int) (a1_3 : Int) (a2_0 : Int) (l2_1 : List Int) : Option (Bool) := if a2_0 = 1 then (drv_good.j0 k ((l2_1.length : Int) != a1_3) a0_0 a0_1 a0_2 a0_3 a0_4 a0_5 a0_6 a0_7 a0_8 a2_0 l2_1) else (drv_good.j0 k true a0_0 a0_1 a0_2 a0_3 a0_4 a0_5 a0_6 a0_7 a0_8 a2_0 l2_1)
theorem drv_good.mono_l : ∀ k, (∀ y0 y1 y2 y3 y4 y5 y6 y7 y8 y9 y10 y11, LeO (drv_good.j0 k y0 y1 y2 y3 y4 y5 y6 y7 y8 y9 y10 y11) (drv_good.j0 (k + 1) y0 y1 y2 y3 y4 y5 y6 y7 y8 y9 y10 y11))
 | 0 => fun _ _ _ _ _ _ _ _ _ _ _ _ r h => by simp [drv_good.j0] at h
 | k + 1 => by
  have ih0 := drv_good.mono_l k
  ·intro y0 y1 y2 y3 y4 y5 y6 y7 y8 y9 y10 y11
   unfold drv_good.j0
   repeat' first
   | (with_reducible exact ih0 _ _ _ _ _ _ _ _ _ _ _ _)
   | (with_reducible exact LeO.refl _)
   | (with_reducible exact LeO.none _)
   | (with_reducible refine LeO.ite ?_ ?_)
   | (with_reducible refine LeO.bind ?_ (fun _ => ?_))
   | exact ih0 _ _ _ _ _ _ _ _ _ _ _ _
   | exact LeO.none _
   | refine LeO.ite ?_ ?_
   | refine LeO.bind ?_ (fun _ => ?_)
theorem drv_good.mono : ∀ a0 a1 a2 a3 a4 a5 a6 a7 a8 a9 a10 a11 a12 a13 a14 k, LeO (drv_good.f k a0 a1 a2 a3 a4 a5 a6 a7 a8 a9 a10 a11 a12 a13 a14) (drv_good.f (k + 1) a0 a1 a2 a3 a4 a5 a6 a7 a8 a9 a10 a11 a12 a13 a14) := by
 intro a0 a1 a2 a3 a4 a5 a6 a7 a8 a9 a10 a11 a12 a13 a14 k
 have ih0 := drv_good.mono_l k
 unfold drv_good.f
 repeat' first
   | (with_reducible exact ih0 _ _ _ _ _ _ _ _ _ _ _ _)
   | (with_reducible exact LeO.refl _)
   | (with_reducible exact LeO.none _)
   | (with_reducible refine LeO.ite ?_ ?_)
   | (with_reducible refine LeO.bind ?_ (fun _ => ?_))
   | exact ih0 _ _ _ _ _ _ _ _ _ _ _ _
   | exact LeO.none _
   | refine LeO.ite ?_ ?_
   | refine LeO.bind ?_ (fun _ => ?_)
set_option maxHeartbeats 8000000 in
set_option maxRecDepth 100000 in
theorem drv_good.calls (k : Nat) (a0_0 : Int) (a0_1 : Int) (a0_2 : Bool) (a0_3 : Int) (a0_4 : Int) (a0_5 : Int) (a0_6 : Bool) (a0_7 : Int) (a0_8 : Int) (a1_0 : Int) (a1_1 : Int) (A1_2 : Option Addr) (c1_2 : Nat) (l1_2 : List Int) (a1_3 : Int) (a2_0 : Int) (A2_1 : Option Addr) (c2_1 : Nat) (l2_1 : List Int) (r : Bool) (w : World) (hr1_2 : Kd.C (Kd.int .u8) w A1_2 l1_2.length l1_2) (hc1_2 : l1_2.length ≤ c1_2) (hr2_1 : Kd.C (Kd.int .u8) w A2_1 l2_1.length l2_1) (hc2_1 : l2_1.length ≤ c2_1) (h : drv_good.f k a0_0 a0_1 a0_2 a0_3 a0_4 a0_5 a0_6 a0_7 a0_8 a1_0 a1_1 l1_2 a1_3 a2_0 l2_1 = some r) :
  Calls Try.prog 35 #[.agg #[.int .i64 a0_0, .int .i64 a0_1, .bool a0_2, .int .i64 a0_3, .int .i64 a0_4, .int .i64 a0_5, .bool a0_6, .int .i64 a0_7, .int .i64 a0_8], .agg #[.int .i64 a1_0, .int .i64 a1_1, .slice A1_2 l1_2.length c1_2, .int .i64 a1_3], .agg #[.int .i64 a2_0, .slice A2_1 l2_1.length c2_1]] w fun e w' => e = .returned (.bool r) ∧ Below w.heap.size w w' := by
 have hu24 := Try.underlying24
 have hu31 := Try.underlying31
 have hu27 := Try.underlying27
 have HR1_2 := Aside0.mk hr1_2
 have HC1_2 := Aside0.mk hc1_2
 clear hr1_2 hc1_2
 have HR2_1 := Aside0.mk hr2_1
 have HC2_1 := Aside0.mk hc2_1
 clear hr2_1 hc2_1
 have HB := Aside0.mk (Below.refl w.heap.size w)
 have H : (if a2_0 = 1 then (drv_good.j0 k ((l2_1.length : Int) != a1_3) a0_0 a0_1 a0_2 a0_3 a0_4 a0_5 a0_6 a0_7 a0_8 a2_0 l2_1) else (drv_good.j0 k true a0_0 a0_1 a0_2 a0_3 a0_4 a0_5 a0_6 a0_7 a0_8 a2_0 l2_1)) = some r := h
 clear h
 have HC4 := Aside0.mk H
 clear H
 go_enter Try.func35, Try.ntmps35
 go_upto_region 1 with (first | ((with_reducible refine gate_dst (N := 3) rfl ?_); (try (refine gate_guard (by rfl) ?_; dsimp only)); refine box_event ?hg (N := 3) ?hd (cs := #[.int .i64 a0_0, .int .i64 a0_1, .bool a0_2, .int .i64 a0_3, .int .i64 a0_4, .int .i64 a0_5, .bool a0_6, .int .i64 a0_7, .int .i64 a0_8]) (t := 24) ?hr ?_; (case hd => rfl); (case hg => rfl); (case hr => first | (go_simp; done) | (go_simp; rfl)); intro gb159 hg w5 hbox hb; have BK159 := Aside0.mk hbox; have GW159 := Sq.ge hg HB; have GE159 := Sq.ge hg HB; replace HB := Sq.sw HB hb; clear hb hbox hg) | ((with_reducible refine gate_dst (N := 4) rfl ?_); (try (refine gate_guard (by rfl) ?_; dsimp only)); refine box_event ?hg (N := 4) ?hd (cs := #[.int .i64 a1_0, .int .i64 a1_1, .slice A1_2 l1_2.length c1_2, .int .i64 a1_3]) (t := 31) ?hr ?_; (case hd => rfl); (case hg => rfl); (case hr => first | (go_simp; done) | (go_simp; rfl)); intro gb160 hg w6 hbox hb; have BK160 := Aside0.mk hbox; have GW160 := Sq.ge hg HB; have GE160 := Sq.ge hg HB; obtain ⟨NB159_160, NB160_159⟩ := Sq.np hg BK159; replace BK159 := Sq.sb BK159 hb; replace HB := Sq.sw HB hb; clear hb hbox hg) | ((with_reducible refine gate_dst (N := 5) rfl ?_); (try (refine gate_guard (by rfl) ?_; dsimp only)); refine box_event ?hg (N := 5) ?hd (cs := #[.int .i64 a2_0, .slice A2_1 l2_1.length c2_1]) (t := 27) ?hr ?_; (case hd => rfl); (case hg => rfl); (case hr => first | (go_simp; done) | (go_simp; rfl)); intro gb161 hg w7 hbox hb; have BK161 := Aside0.mk hbox; have GW161 := Sq.ge hg HB; have GE161 := Sq.ge hg HB; obtain ⟨NB159_161, NB161_159⟩ := Sq.np hg BK159; obtain ⟨NB160_161, NB161_160⟩ := Sq.np hg BK160; replace BK159 := Sq.sb BK159 hb; replace BK160 := Sq.sb BK160 hb; replace HB := Sq.sw HB hb; clear hb hbox hg))
 repeat (go_quiet (first | ((with_reducible refine gate_dst (N := 3) rfl ?_); (try (refine gate_guard (by rfl) ?_; dsimp only)); refine box_event ?hg (N := 3) ?hd (cs := #[.int .i64 a0_0, .int .i64 a0_1, .bool a0_2, .int .i64 a0_3, .int .i64 a0_4, .int .i64 a0_5, .bool a0_6, .int .i64 a0_7, .int .i64 a0_8]) (t := 24) ?hr ?_; (case hd => rfl); (case hg => rfl); (case hr => first | (go_simp; done) | (go_simp; rfl)); intro gb159 hg w5 hbox hb; have BK159 := Aside0.mk hbox; have GW159 := Sq.ge hg HB; have GE159 := Sq.ge hg HB; replace HB := Sq.sw HB hb; clear hb hbox hg) | ((with_reducible refine gate_dst (N := 4) rfl ?_); (try (refine gate_guard (by rfl) ?_; dsimp only)); refine box_event ?hg (N := 4) ?hd (cs := #[.int .i64 a1_0, .int .i64 a1_1, .slice A1_2 l1_2.length c1_2, .int .i64 a1_3]) (t := 31) ?hr ?_; (case hd => rfl); (case hg => rfl); (case hr => first | (go_simp; done) | (go_simp; rfl)); intro gb160 hg w6 hbox hb; have BK160 := Aside0.mk hbox; have GW160 := Sq.ge hg HB; have GE160 := Sq.ge hg HB; obtain ⟨NB159_160, NB160_159⟩ := Sq.np hg BK159; replace BK159 := Sq.sb BK159 hb; replace HB := Sq.sw HB hb; clear hb hbox hg) | ((with_reducible refine gate_dst (N := 5) rfl ?_); (try (refine gate_guard (by rfl) ?_; dsimp only)); refine box_event ?hg (N := 5) ?hd (cs := #[.int .i64 a2_0, .slice A2_1 l2_1.length c2_1]) (t := 27) ?hr ?_; (case hd => rfl); (case hg => rfl); (case hr => first | (go_simp; done) | (go_simp; rfl)); intro gb161 hg w7 hbox hb; have BK161 := Aside0.mk hbox; have GW161 := Sq.ge hg HB; have GE161 := Sq.ge hg HB; obtain ⟨NB159_161, NB161_159⟩ := Sq.np hg BK159; obtain ⟨NB160_161, NB161_160⟩ := Sq.np hg BK160; replace BK159 := Sq.sb BK159 hb; replace BK160 := Sq.sb BK160 hb; replace HB := Sq.sw HB hb; clear hb hbox hg)); go_upto_region 1 with (first | ((with_reducible refine gate_dst (N := 3) rfl ?_); (try (refine gate_guard (by rfl) ?_; dsimp only)); refine box_event ?hg (N := 3) ?hd (cs := #[.int .i64 a0_0, .int .i64 a0_1, .bool a0_2, .int .i64 a0_3, .int .i64 a0_4, .int .i64 a0_5, .bool a0_6, .int .i64 a0_7, .int .i64 a0_8]) (t := 24) ?hr ?_; (case hd => rfl); (case hg => rfl); (case hr => first | (go_simp; done) | (go_simp; rfl)); intro gb159 hg w5 hbox hb; have BK159 := Aside0.mk hbox; have GW159 := Sq.ge hg HB; have GE159 := Sq.ge hg HB; replace HB := Sq.sw HB hb; clear hb hbox hg) | ((with_reducible refine gate_dst (N := 4) rfl ?_); (try (refine gate_guard (by rfl) ?_; dsimp only)); refine box_event ?hg (N := 4) ?hd (cs := #[.int .i64 a1_0, .int .i64 a1_1, .slice A1_2 l1_2.length c1_2, .int .i64 a1_3]) (t := 31) ?hr ?_; (case hd => rfl); (case hg => rfl); (case hr => first | (go_simp; done) | (go_simp; rfl)); intro gb160 hg w6 hbox hb; have BK160 := Aside0.mk hbox; have GW160 := Sq.ge hg HB; have GE160 := Sq.ge hg HB; obtain ⟨NB159_160, NB160_159⟩ := Sq.np hg BK159; replace BK159 := Sq.sb BK159 hb; replace HB := Sq.sw HB hb; clear hb hbox hg) | ((with_reducible refine gate_dst (N := 5) rfl ?_); (try (refine gate_guard (by rfl) ?_; dsimp only)); refine box_event ?hg (N := 5) ?hd (cs := #[.int .i64 a2_0, .slice A2_1 l2_1.length c2_1]) (t := 27) ?hr ?_; (case hd => rfl); (case hg => rfl); (case hr => first | (go_simp; done) | (go_simp; rfl)); intro gb161 hg w7 hbox hb; have BK161 := Aside0.mk hbox; have GW161 := Sq.ge hg HB; have GE161 := Sq.ge hg HB; obtain ⟨NB159_161, NB161_159⟩ := Sq.np hg BK159; obtain ⟨NB160_161, NB161_160⟩ := Sq.np hg BK160; replace BK159 := Sq.sb BK159 hb; replace BK160 := Sq.sb BK160 hb; replace HB := Sq.sw HB hb; clear hb hbox hg)))
 (try simp only [Act.put, List.setIfInBounds_toArray, List.set_cons_zero, List.set_cons_succ])
 refine Cu.wp_cut (Cu.rep 7 Cu.f (Cu.rep 12 Cu.t (Cu.rep 2 Cu.f (Cu.rep 9 Cu.t (Cu.rep 1 Cu.f (Cu.rep 7 Cu.t [])))))) 28 (fun us_ wc => ∃ (kq : Nat) (x17_3 : Bool), (Cu.nth us_ 10) = .bool x17_3 ∧ Aside0 (drv_good.j0 kq x17_3 a0_0 a0_1 a0_2 a0_3 a0_4 a0_5 a0_6 a0_7 a0_8 a2_0 l2_1 = some r) ∧ Aside0 (kq ≤ k) ∧ Aside0 (wc.heap[gb159]? = some (.cells #[.int .i64 a0_0, .int .i64 a0_1, .bool a0_2, .int .i64 a0_3, .int .i64 a0_4, .int .i64 a0_5, .bool a0_6, .int .i64 a0_7, .int .i64 a0_8] 24 (0, 0))) ∧ Aside0 (wc.heap[gb160]? = some (.cells #[.int .i64 a1_0, .int .i64 a1_1, (.slice A1_2 l1_2.length c1_2), .int .i64 a1_3] 31 (0, 0))) ∧ Aside0 (wc.heap[gb161]? = some (.cells #[.int .i64 a2_0, (.slice A2_1 l2_1.length c2_1)] 27 (0, 0))) ∧ Aside0 (Below w.heap.size w wc)) ?_ ?_
 ·
  intro _ _ _ _
  have H := HC4.out
  clear HC4
  by_cases c8 : a2_0 = 1
  ·rw [if_pos c8] at H
   have c8b0 : (a2_0 == 1) = true := beq_iff_eq.mpr c8
   have c8b1 : (a2_0 != 1) = false := bne_eq_false_iff_eq.mpr c8
   clear c8
   (first | rw [c8b0] | (simp only [i64_w, i32_w]; rw [c8b0]) | skip)
   have H' := Aside0.mk H
   clear H; have b9 := NB161_159.out; have d9 := NB159_161.out; have b10 := NB161_160.out; have d10 := NB160_161.out
   obtain ⟨z11_0, z11_1⟩ := Sq.c2 BK161.out
   obtain ⟨y11_0, y11_1⟩ := Sq.f2 BK161.out
   have b12 := NB160_159.out; have d12 := NB159_160.out
   obtain ⟨z13_0, z13_1, z13_2, z13_3⟩ := Sq.c4 BK160.out
   obtain ⟨y13_0, y13_1, y13_2, y13_3⟩ := Sq.f4 BK160.out
   go_wp2
   repeat (go_quiet (fail); try go_wp2)
   refine Cu.meet (by assumption) ?_ (by kernel_rfl) (by kernel_rfl)
   try dsimp only [Cu.pick, Cu.rep, Cu.nth]
   exact ⟨_, (((l2_1.length : Int) != a1_3)), Sq.e, H', ⟨by first | omega | exact Nat.le_refl _⟩, ⟨Sq.b BK159.out⟩, ⟨Sq.b BK160.out⟩, ⟨Sq.b BK161.out⟩, ⟨Sq.w HB.out⟩⟩
  ·rw [if_neg c8] at H
   have c8b0 : (a2_0 == 1) = false := beq_eq_false_iff_ne.mpr c8
   have c8b1 : (a2_0 != 1) = true := bne_iff_ne.mpr c8
   (first | rw [c8b0] | (simp only [i64_w, i32_w]; rw [c8b0]) | skip)
   have H' := Aside0.mk H
   clear H; have b14 := NB161_159.out; have d14 := NB159_161.out; have b15 := NB161_160.out; have d15 := NB160_161.out
   obtain ⟨z16_0, z16_1⟩ := Sq.c2 BK161.out
   obtain ⟨y16_0, y16_1⟩ := Sq.f2 BK161.out
   go_wp2
   repeat (go_quiet (fail); try go_wp2)
   refine Cu.meet (by assumption) ?_ (by kernel_rfl) (by kernel_rfl)
   try dsimp only [Cu.pick, Cu.rep, Cu.nth]
   exact ⟨_, (true), Sq.e, H', ⟨by first | omega | exact Nat.le_refl _⟩, ⟨Sq.b BK159.out⟩, ⟨Sq.b BK160.out⟩, ⟨Sq.b BK161.out⟩, ⟨Sq.w HB.out⟩⟩
 ·
  intro wc u7 u8 u9 u10 u11 u12 u13 u14 u15 u16 u17 u18 u21 u22 u23 u24 u25 u26 u27 u28 u29 u31 u32 u33 u34 u35 u36 u37
  try dsimp only [Cu.over, Cu.rep, Cu.nth]
  intro hcut
  clear HC4
  obtain ⟨kq, x17_3, rfl, HA, HJ3, BK159, BK160, BK161, HB⟩ := hcut
  cases kq with
  | zero => exact absurd HA.out (by simp [drv_good.j0])
  | succ kj3 =>
   have H := HA.out
   clear HA
   simp only [drv_good.j0] at H
   by_cases c17 : x17_3 = true
   ·subst c17
    have H1 : (some false) = some r := by rw [if_pos rfl] at H; exact H
    clear H
    have H := H1
    clear H1
    obtain rfl := Option.some.inj H
    go_wp2
    repeat (go_quiet (fail); try go_wp2)
    go_ret
    exact ⟨by first | rfl | (simp [errW_none, errW_some] <;> rfl) | (simp [*, errW_none, errW_some] <;> rfl), Sq.w HB.out⟩
   ·replace c17 := Bool.eq_false_iff.mpr c17
    subst c17
    have H1 : (if a0_4 = 1 then (if 0 < (l2_1.length : Int) then (some ((wrap64 (rd l2_1 0)) == a0_1)) else (none)) else (if a0_4 = 4 then (if 0 < (l2_1.length : Int) then (some (decide ((wrap64 (rd l2_1 0)) ≤ 16))) else (none)) else (some true))) = some r := by rw [if_neg (show ¬ (false = true) by decide)] at H; exact H
    clear H
    have H := H1
    clear H1
    by_cases c18 : a0_4 = 1
    ·rw [if_pos c18] at H
     have c18b0 : (a0_4 == 1) = true := beq_iff_eq.mpr c18
     have c18b1 : (a0_4 != 1) = false := bne_eq_false_iff_eq.mpr c18
     clear c18
     by_cases c19 : 0 < (l2_1.length : Int)
     ·rw [if_pos c19] at H
      have c19b0 : decide (0 < (l2_1.length : Int)) = true := decide_eq_true c19
      have c19b1 : decide (0 < l2_1.length) = true := decide_eq_true (by omega)
      clear c19
      obtain rfl := Option.some.inj H
      have b20 := NB159_160.out; have d20 := NB160_159.out; have b21 := NB159_161.out; have d21 := NB161_159.out
      obtain ⟨z22_0, z22_1, z22_2, z22_3, z22_4, z22_5, z22_6, z22_7, z22_8⟩ := Sq.c9 BK159.out
      obtain ⟨y22_0, y22_1, y22_2, y22_3, y22_4, y22_5, y22_6, y22_7, y22_8⟩ := Sq.f9 BK159.out
      have b23 := NB161_160.out; have d23 := NB160_161.out
      obtain ⟨z24_0, z24_1⟩ := Sq.c2 BK161.out
      obtain ⟨y24_0, y24_1⟩ := Sq.f2 BK161.out
      have p162 : 0 ≤ (0 : Int) := (by omega)
      have q162 : 0 < (l2_1.length : Int) := of_decide_eq_true (by first | (with_reducible assumption) | assumption)
      obtain ⟨ad162, e162, hx162_0⟩ := Kd.at_int HR2_1.out 0 p162 q162
      cases e162
      have qi162 : (0 < l2_1.length) = True := eq_true (by omega)
      (try rw [show ((0 : Int)).toNat = 0 from rfl] at hx162_0)
      (try rw [Addr.add_zero'] at hx162_0)
      replace hx162_0 := (HB.out.cell (World.block_lt_of_cell? w _ hx162_0)).trans hx162_0
      replace p162 := eq_true p162
      replace q162 := eq_true q162
      go_wp2
      repeat (go_quiet (fail); try go_wp2)
      go_ret
      exact ⟨by first | rfl | (simp [errW_none, errW_some] <;> rfl) | (simp [*, errW_none, errW_some] <;> rfl), Sq.w HB.out⟩
     ·rw [if_neg c19] at H
      exact absurd H (by simp)
    ·rw [if_neg c18] at H
     have c18b0 : (a0_4 == 1) = false := beq_eq_false_iff_ne.mpr c18
     have c18b1 : (a0_4 != 1) = true := bne_iff_ne.mpr c18
     by_cases c25 : a0_4 = 4
     ·rw [if_pos c25] at H
      have c25b0 : (a0_4 == 4) = true := beq_iff_eq.mpr c25
      have c25b1 : (a0_4 != 4) = false := bne_eq_false_iff_eq.mpr c25
      clear c25
      by_cases c26 : 0 < (l2_1.length : Int)
      ·rw [if_pos c26] at H
       have c26b0 : decide (0 < (l2_1.length : Int)) = true := decide_eq_true c26
       have c26b1 : decide (0 < l2_1.length) = true := decide_eq_true (by omega)
       clear c26
       obtain rfl := Option.some.inj H
       have b27 := NB159_160.out; have d27 := NB160_159.out; have b28 := NB159_161.out; have d28 := NB161_159.out
       obtain ⟨z29_0, z29_1, z29_2, z29_3, z29_4, z29_5, z29_6, z29_7, z29_8⟩ := Sq.c9 BK159.out
       obtain ⟨y29_0, y29_1, y29_2, y29_3, y29_4, y29_5, y29_6, y29_7, y29_8⟩ := Sq.f9 BK159.out
       have b30 := NB161_160.out; have d30 := NB160_161.out
       obtain ⟨z31_0, z31_1⟩ := Sq.c2 BK161.out
       obtain ⟨y31_0, y31_1⟩ := Sq.f2 BK161.out
       have p163 : 0 ≤ (0 : Int) := (by omega)
       have q163 : 0 < (l2_1.length : Int) := of_decide_eq_true (by first | (with_reducible assumption) | assumption)
       obtain ⟨ad163, e163, hx163_0⟩ := Kd.at_int HR2_1.out 0 p163 q163
       cases e163
       have qi163 : (0 < l2_1.length) = True := eq_true (by omega)
       (try rw [show ((0 : Int)).toNat = 0 from rfl] at hx163_0)
       (try rw [Addr.add_zero'] at hx163_0)
       replace hx163_0 := (HB.out.cell (World.block_lt_of_cell? w _ hx163_0)).trans hx163_0
       replace p163 := eq_true p163
       replace q163 := eq_true q163
       go_wp2
       repeat (go_quiet (fail); try go_wp2)
       go_ret
       exact ⟨by first | rfl | (simp [errW_none, errW_some] <;> rfl) | (simp [*, errW_none, errW_some] <;> rfl), Sq.w HB.out⟩
      ·rw [if_neg c26] at H
       exact absurd H (by simp)
     ·rw [if_neg c25] at H
      have c25b0 : (a0_4 == 4) = false := beq_eq_false_iff_ne.mpr c25
      have c25b1 : (a0_4 != 4) = true := bne_iff_ne.mpr c25
      obtain rfl := Option.some.inj H
      have b32 := NB159_160.out; have d32 := NB160_159.out; have b33 := NB159_161.out; have d33 := NB161_159.out
      obtain ⟨z34_0, z34_1, z34_2, z34_3, z34_4, z34_5, z34_6, z34_7, z34_8⟩ := Sq.c9 BK159.out
      obtain ⟨y34_0, y34_1, y34_2, y34_3, y34_4, y34_5, y34_6, y34_7, y34_8⟩ := Sq.f9 BK159.out
      go_wp2
      repeat (go_quiet (fail); try go_wp2)
      go_ret
      exact ⟨by first | rfl | (simp [errW_none, errW_some] <;> rfl) | (simp [*, errW_none, errW_some] <;> rfl), Sq.w HB.out⟩

end Go.Proofs.Ytnlmbejkemkkoaa.PDrvExact
