import Derived.Test.YtfdfnmlbmijdjaaCut
import Derived.Test.YtfdfnmlbmijdjaaPRateTablesx0
import Derived.Test.YtfdfnmlbmijdjaaPRateTablesx1
import Derived.Test.YtfdfnmlbmijdjaaPRateTablesx2
import Derived.Test.YtfdfnmlbmijdjaaPRateTablesx3
namespace Go.Proofs.Ytfdfnmlbmijdjaa.PRateTables
open Go.RowKit Go.Proofs.YtfdfnmlbmijdjaaW.PrintWords Go.Proofs.YtfdfnmlbmijdjaaW.PrintLast Go.Proofs.YtfdfnmlbmijdjaaW.PrintMore
attribute [local go_sem] max2_int min2_int max_two min_two max_three min_three max_four min_four   -- for this text's walks alone
set_option linter.unusedVariables false
set_option linter.unusedSimpArgs false

attribute [local go_sem high] eqA29
/-! ### gimballaw27_RateTables: function 4 -/
mutual
def gimballaw27_RateTables.l0 : Nat → List (S31) → Int → Rt.Tb → Option (Bool)
 | 0, _, _, _ => none
 | k + 1, x0, x4, x141000 => if x4 < (x0.length : Int) then (gimballaw27_RateTables.j1 k x0 x4 (decide (x4 < 60)) x141000) else (gimballaw27_RateTables.j1 k x0 x4 false x141000)
def gimballaw27_RateTables.j1 : Nat → List (S31) → Int → Bool → Rt.Tb → Option (Bool)
 | 0, _, _, _, _ => none
 | k + 1, x0, x4, x25, x141000 => if x25 = true then (if 0 ≤ x4 then (if x4 < (x0.length : Int) then ((gimbalref25_MaySub.f ((rd_T31 x0 x4).f1.f0) ((rd_T31 x0 x4).f1.f1) ((rd_T31 x0 x4).f1.f2) ((rd_T31 x0 x4).f1.f3)).bind fun t143 => (if t143 = true then ((rate_Table_All.f x141000).bind fun bt144 => ((rate_Table_Add.f bt144.2 ((rd_T31 x0 x4).f1.f0) ((rd_T31 x0 x4).f1.f1) ((rd_T31 x0 x4).f1.f2) ((rd_T31 x0 x4).f1.f3)).bind fun bt148 => ((gimballaw27_num.f bt148.1).bind fun t150 => (if t150 = 0 then ((rate_Table_All.f bt148.2).bind fun bt151 => (gimballaw27_RateTables.l1 k x0 x4 (bt144.1.length : Int) bt151.1 0 0 bt151.2 ((rd_T31 x0 x4).f1.f0) ((rd_T31 x0 x4).f1.f1) ((rd_T31 x0 x4).f1.f2) ((rd_T31 x0 x4).f1.f3))) else (some false))))) else (gimballaw27_RateTables.l0 k x0 (wrap64 (x4 + 1)) x141000))) else (none)) else (none)) else ((rate_Table_Clear.f x141000).bind fun t179 => (gimballaw27_RateTables.l2 k 1 t179))
def gimballaw27_RateTables.l1 : Nat → List (S31) → Int → Int → List (S29) → Int → Int → Rt.Tb → Int → Int → Int → Int → Option (Bool)
 | 0, _, _, _, _, _, _, _, _, _, _, _ => none
 | k + 1, x0, x4, x6, x7, x8, x9, x141000, x143000, x143001, x143002, x143003 => if x9 < (x7.length : Int) then (if 0 ≤ x9 then (if (((rd_T29 x7 x9).f0) == x143000 && (((rd_T29 x7 x9).f1) == x143001 && (((rd_T29 x7 x9).f2) == x143002 && (((rd_T29 x7 x9).f3) == x143003)))) = true then (if x9 > 0 then (if 0 ≤ (wrap64 (x9 - 1)) then (if (wrap64 (x9 - 1)) < (x7.length : Int) then (if ((rd_T29 x7 (wrap64 (x9 - 1))).f0) > ((rd_T29 x7 x9).f0) then (some false) else (if ((rd_T29 x7 (wrap64 (x9 - 1))).f0) = ((rd_T29 x7 x9).f0) then (if ((rd_T29 x7 (wrap64 (x9 - 1))).f1) ≥ ((rd_T29 x7 x9).f1) then (some false) else (gimballaw27_RateTables.l1 k x0 x4 x6 x7 (wrap64 (x8 + 1)) (wrap64 (x9 + 1)) x141000 x143000 x143001 x143002 x143003)) else (gimballaw27_RateTables.l1 k x0 x4 x6 x7 (wrap64 (x8 + 1)) (wrap64 (x9 + 1)) x141000 x143000 x143001 x143002 x143003))) else (none)) else (none)) else (gimballaw27_RateTables.l1 k x0 x4 x6 x7 (wrap64 (x8 + 1)) (wrap64 (x9 + 1)) x141000 x143000 x143001 x143002 x143003)) else (if x9 > 0 then (if 0 ≤ (wrap64 (x9 - 1)) then (if (wrap64 (x9 - 1)) < (x7.length : Int) then (if ((rd_T29 x7 (wrap64 (x9 - 1))).f0) > ((rd_T29 x7 x9).f0) then (some false) else (if ((rd_T29 x7 (wrap64 (x9 - 1))).f0) = ((rd_T29 x7 x9).f0) then (if ((rd_T29 x7 (wrap64 (x9 - 1))).f1) ≥ ((rd_T29 x7 x9).f1) then (some false) else (gimballaw27_RateTables.l1 k x0 x4 x6 x7 x8 (wrap64 (x9 + 1)) x141000 x143000 x143001 x143002 x143003)) else (gimballaw27_RateTables.l1 k x0 x4 x6 x7 x8 (wrap64 (x9 + 1)) x141000 x143000 x143001 x143002 x143003))) else (none)) else (none)) else (gimballaw27_RateTables.l1 k x0 x4 x6 x7 x8 (wrap64 (x9 + 1)) x141000 x143000 x143001 x143002 x143003))) else (none)) else (if x8 = 1 then (if (x7.length : Int) = x6 then (gimballaw27_RateTables.j3 k x0 x4 x7 false x141000 x143000 x143001 x143002 x143003) else (gimballaw27_RateTables.j3 k x0 x4 x7 ((x7.length : Int) != (wrap64 (x6 + 1))) x141000 x143000 x143001 x143002 x143003)) else (gimballaw27_RateTables.j3 k x0 x4 x7 true x141000 x143000 x143001 x143002 x143003))
def gimballaw27_RateTables.j3 : Nat → List (S31) → Int → List (S29) → Bool → Rt.Tb → Int → Int → Int → Int → Option (Bool)
 | 0, _, _, _, _, _, _, _, _, _ => none
 | k + 1, x0, x4, x7, x118, x141000, x143000, x143001, x143002, x143003 => if x118 = true then (some false) else (if 0 ≤ x4 then (if x4 < (x0.length : Int) then (if (Int.tmod ((rd_T31 x0 x4).f0) 3) = 0 then ((rate_Table_Drop.f x141000 x143000 x143001).bind fun bt169 => ((rate_Table_Drop.f bt169.2 x143000 x143001).bind fun bt171 => ((gimballaw27_num.f bt169.1).bind fun t173 => (if t173 = 0 then ((gimballaw27_num.f bt171.1).bind fun t174 => (if t174 = 5 then ((rate_Table_All.f bt171.2).bind fun bt175 => (if (bt175.1.length : Int) = (wrap64 ((x7.length : Int) - 1)) then (gimballaw27_RateTables.l0 k x0 (wrap64 (x4 + 1)) bt175.2) else (some false))) else (some false))) else (some false))))) else (gimballaw27_RateTables.l0 k x0 (wrap64 (x4 + 1)) x141000)) else (none)) else (none))
def gimballaw27_RateTables.l2 : Nat → Int → Rt.Tb → Option (Bool)
 | 0, _, _ => none
 | k + 1, x12, x141000 => if x12 ≤ 16 then ((rate_Table_Take.f x141000 x12 5).bind fun bt185 => ((gimballaw27_num.f bt185.2.1).bind fun t190 => (if t190 = 0 then (if (bt185.1.length : Int) > 0 then (some false) else (gimballaw27_RateTables.l2 k (wrap64 (x12 + 1)) bt185.2.2)) else (some false)))) else ((rate_Table_All.f x141000).bind fun bt180 => (if (bt180.1.length : Int) = 0 then ((gimballaw27_wakes.f k).bind fun t184 => (some t184)) else (some false)))
end
def gimballaw27_RateTables.f (k : Nat) (l0 : List (S31)) : Option (Bool) := (rate_New.f).bind fun t139 => (gimballaw27_RateTables.l0 k l0 0 t139)
theorem gimballaw27_RateTables.mono_l : ∀ k, (∀ y0 y1 y2, LeO (gimballaw27_RateTables.l0 k y0 y1 y2) (gimballaw27_RateTables.l0 (k + 1) y0 y1 y2)) ∧ (∀ y0 y1 y2 y3, LeO (gimballaw27_RateTables.j1 k y0 y1 y2 y3) (gimballaw27_RateTables.j1 (k + 1) y0 y1 y2 y3)) ∧ (∀ y0 y1 y2 y3 y4 y5 y6 y7 y8 y9 y10, LeO (gimballaw27_RateTables.l1 k y0 y1 y2 y3 y4 y5 y6 y7 y8 y9 y10) (gimballaw27_RateTables.l1 (k + 1) y0 y1 y2 y3 y4 y5 y6 y7 y8 y9 y10)) ∧ (∀ y0 y1 y2 y3 y4 y5 y6 y7 y8, LeO (gimballaw27_RateTables.j3 k y0 y1 y2 y3 y4 y5 y6 y7 y8) (gimballaw27_RateTables.j3 (k + 1) y0 y1 y2 y3 y4 y5 y6 y7 y8)) ∧ (∀ y0 y1, LeO (gimballaw27_RateTables.l2 k y0 y1) (gimballaw27_RateTables.l2 (k + 1) y0 y1))
 | 0 => ⟨fun _ _ _ r h => by simp [gimballaw27_RateTables.l0] at h, fun _ _ _ _ r h => by simp [gimballaw27_RateTables.j1] at h, fun _ _ _ _ _ _ _ _ _ _ _ r h => by simp [gimballaw27_RateTables.l1] at h, fun _ _ _ _ _ _ _ _ _ r h => by simp [gimballaw27_RateTables.j3] at h, fun _ _ r h => by simp [gimballaw27_RateTables.l2] at h⟩
 | k + 1 => by
  obtain ⟨ih0, ih1, ih2, ih3, ih4⟩ := gimballaw27_RateTables.mono_l k
  refine ⟨?_, ?_, ?_, ?_, ?_⟩
  ·intro y0 y1 y2
   unfold gimballaw27_RateTables.l0
   repeat' first
   | (with_reducible exact ih0 _ _ _)
   | (with_reducible exact ih1 _ _ _ _)
   | (with_reducible exact ih2 _ _ _ _ _ _ _ _ _ _ _)
   | (with_reducible exact ih3 _ _ _ _ _ _ _ _ _)
   | (with_reducible exact ih4 _ _)
   | (with_reducible exact gimballaw27_wakes.mono _)
   | (with_reducible exact LeO.refl _)
   | (with_reducible exact LeO.none _)
   | (with_reducible refine LeO.ite ?_ ?_)
   | (with_reducible refine LeO.bind ?_ (fun _ => ?_))
   | exact ih0 _ _ _
   | exact ih1 _ _ _ _
   | exact ih2 _ _ _ _ _ _ _ _ _ _ _
   | exact ih3 _ _ _ _ _ _ _ _ _
   | exact ih4 _ _
   | exact gimballaw27_wakes.mono _
   | exact LeO.none _
   | refine LeO.ite ?_ ?_
   | refine LeO.bind ?_ (fun _ => ?_)
  ·intro y0 y1 y2 y3
   unfold gimballaw27_RateTables.j1
   repeat' first
   | (with_reducible exact ih0 _ _ _)
   | (with_reducible exact ih1 _ _ _ _)
   | (with_reducible exact ih2 _ _ _ _ _ _ _ _ _ _ _)
   | (with_reducible exact ih3 _ _ _ _ _ _ _ _ _)
   | (with_reducible exact ih4 _ _)
   | (with_reducible exact gimballaw27_wakes.mono _)
   | (with_reducible exact LeO.refl _)
   | (with_reducible exact LeO.none _)
   | (with_reducible refine LeO.ite ?_ ?_)
   | (with_reducible refine LeO.bind ?_ (fun _ => ?_))
   | exact ih0 _ _ _
   | exact ih1 _ _ _ _
   | exact ih2 _ _ _ _ _ _ _ _ _ _ _
   | exact ih3 _ _ _ _ _ _ _ _ _
   | exact ih4 _ _
   | exact gimballaw27_wakes.mono _
   | exact LeO.none _
   | refine LeO.ite ?_ ?_
   | refine LeO.bind ?_ (fun _ => ?_)
  ·intro y0 y1 y2 y3 y4 y5 y6 y7 y8 y9 y10
   unfold gimballaw27_RateTables.l1
   repeat' first
   | (with_reducible exact ih0 _ _ _)
   | (with_reducible exact ih1 _ _ _ _)
   | (with_reducible exact ih2 _ _ _ _ _ _ _ _ _ _ _)
   | (with_reducible exact ih3 _ _ _ _ _ _ _ _ _)
   | (with_reducible exact ih4 _ _)
   | (with_reducible exact gimballaw27_wakes.mono _)
   | (with_reducible exact LeO.refl _)
   | (with_reducible exact LeO.none _)
   | (with_reducible refine LeO.ite ?_ ?_)
   | (with_reducible refine LeO.bind ?_ (fun _ => ?_))
   | exact ih0 _ _ _
   | exact ih1 _ _ _ _
   | exact ih2 _ _ _ _ _ _ _ _ _ _ _
   | exact ih3 _ _ _ _ _ _ _ _ _
   | exact ih4 _ _
   | exact gimballaw27_wakes.mono _
   | exact LeO.none _
   | refine LeO.ite ?_ ?_
   | refine LeO.bind ?_ (fun _ => ?_)
  ·intro y0 y1 y2 y3 y4 y5 y6 y7 y8
   unfold gimballaw27_RateTables.j3
   repeat' first
   | (with_reducible exact ih0 _ _ _)
   | (with_reducible exact ih1 _ _ _ _)
   | (with_reducible exact ih2 _ _ _ _ _ _ _ _ _ _ _)
   | (with_reducible exact ih3 _ _ _ _ _ _ _ _ _)
   | (with_reducible exact ih4 _ _)
   | (with_reducible exact gimballaw27_wakes.mono _)
   | (with_reducible exact LeO.refl _)
   | (with_reducible exact LeO.none _)
   | (with_reducible refine LeO.ite ?_ ?_)
   | (with_reducible refine LeO.bind ?_ (fun _ => ?_))
   | exact ih0 _ _ _
   | exact ih1 _ _ _ _
   | exact ih2 _ _ _ _ _ _ _ _ _ _ _
   | exact ih3 _ _ _ _ _ _ _ _ _
   | exact ih4 _ _
   | exact gimballaw27_wakes.mono _
   | exact LeO.none _
   | refine LeO.ite ?_ ?_
   | refine LeO.bind ?_ (fun _ => ?_)
  ·intro y0 y1
   unfold gimballaw27_RateTables.l2
   repeat' first
   | (with_reducible exact ih0 _ _ _)
   | (with_reducible exact ih1 _ _ _ _)
   | (with_reducible exact ih2 _ _ _ _ _ _ _ _ _ _ _)
   | (with_reducible exact ih3 _ _ _ _ _ _ _ _ _)
   | (with_reducible exact ih4 _ _)
   | (with_reducible exact gimballaw27_wakes.mono _)
   | (with_reducible exact LeO.refl _)
   | (with_reducible exact LeO.none _)
   | (with_reducible refine LeO.ite ?_ ?_)
   | (with_reducible refine LeO.bind ?_ (fun _ => ?_))
   | exact ih0 _ _ _
   | exact ih1 _ _ _ _
   | exact ih2 _ _ _ _ _ _ _ _ _ _ _
   | exact ih3 _ _ _ _ _ _ _ _ _
   | exact ih4 _ _
   | exact gimballaw27_wakes.mono _
   | exact LeO.none _
   | refine LeO.ite ?_ ?_
   | refine LeO.bind ?_ (fun _ => ?_)
theorem gimballaw27_RateTables.mono : ∀ a0 k, LeO (gimballaw27_RateTables.f k a0) (gimballaw27_RateTables.f (k + 1) a0) := by
 intro a0 k
 obtain ⟨ih0, ih1, ih2, ih3, ih4⟩ := gimballaw27_RateTables.mono_l k
 unfold gimballaw27_RateTables.f
 repeat' first
   | (with_reducible exact ih0 _ _ _)
   | (with_reducible exact ih1 _ _ _ _)
   | (with_reducible exact ih2 _ _ _ _ _ _ _ _ _ _ _)
   | (with_reducible exact ih3 _ _ _ _ _ _ _ _ _)
   | (with_reducible exact ih4 _ _)
   | (with_reducible exact gimballaw27_wakes.mono _)
   | (with_reducible exact LeO.refl _)
   | (with_reducible exact LeO.none _)
   | (with_reducible refine LeO.ite ?_ ?_)
   | (with_reducible refine LeO.bind ?_ (fun _ => ?_))
   | exact ih0 _ _ _
   | exact ih1 _ _ _ _
   | exact ih2 _ _ _ _ _ _ _ _ _ _ _
   | exact ih3 _ _ _ _ _ _ _ _ _
   | exact ih4 _ _
   | exact gimballaw27_wakes.mono _
   | exact LeO.none _
   | refine LeO.ite ?_ ?_
   | refine LeO.bind ?_ (fun _ => ?_)
set_option maxHeartbeats 8000000 in
set_option maxRecDepth 100000 in
theorem gimballaw27_RateTables.calls (k : Nat) (A0 : Option Addr) (c0 : Nat) (l0 : List (S31)) (r : Bool) (w : World) (hr0 : Kd.C k31 w A0 l0.length l0) (hc0 : l0.length ≤ c0) (h : gimballaw27_RateTables.f k l0 = some r) (hrt_ : Aside0 (r = true)) :
  Calls Try.prog 4 #[.slice A0 l0.length c0] w fun e w' => e = .returned (.bool r) ∧ Below w.heap.size w w' := by
 have hu29 := Try.underlying29
 have HR0 := Aside0.mk hr0
 have HC0 := Aside0.mk hc0
 clear hr0 hc0
 have HB := Aside0.mk (Below.refl w.heap.size w)
 have H : ((rate_New.f).bind fun t139 => (gimballaw27_RateTables.l0 k l0 0 t139)) = some r := h
 clear h
 replace H := Option.bind_eq_some_iff.mp H
 obtain ⟨t139, A20, H⟩ := H
 replace H : (gimballaw27_RateTables.l0 k l0 0 t139) = some r := H
 have A2 := Aside0.mk A20
 clear A20
 have H' := Aside0.mk H
 clear H
 go_enter Try.func4, Try.ntmps4
 go_wp2_with (first | (go_at_call 6; (with_reducible refine (rate_New.calls  t139 w _ ?side1 A2.out).mono ?_); (case side1 => repeat (first | (with_reducible first | exact HB.out | apply below_alloc | apply pw_below_drewN | apply below_drew1) | exact HB.out)); rintro e w3 ⟨g140, rfl, hi, hb, hb2⟩; have HI140 := Aside0.mk (hi); replace HB := Aside0.mk (hb); (try clear hb); (try clear hb2); (try clear hk); (try clear hi)))
 repeat (go_quiet (first | (go_at_call 6; (with_reducible refine (rate_New.calls  t139 w _ ?side1 A2.out).mono ?_); (case side1 => repeat (first | (with_reducible first | exact HB.out | apply below_alloc | apply pw_below_drewN | apply below_drew1) | exact HB.out)); rintro e w3 ⟨g140, rfl, hi, hb, hb2⟩; have HI140 := Aside0.mk (hi); replace HB := Aside0.mk (hb); (try clear hb); (try clear hb2); (try clear hk); (try clear hi))); try go_wp2_with (first | (go_at_call 6; (with_reducible refine (rate_New.calls  t139 w _ ?side1 A2.out).mono ?_); (case side1 => repeat (first | (with_reducible first | exact HB.out | apply below_alloc | apply pw_below_drewN | apply below_drew1) | exact HB.out)); rintro e w3 ⟨g140, rfl, hi, hb, hb2⟩; have HI140 := Aside0.mk (hi); replace HB := Aside0.mk (hb); (try clear hb); (try clear hb2); (try clear hk); (try clear hi))))
 refine Cu.wp_loop (Cu.rep 2 Cu.f (Cu.rep 1 Cu.t (Cu.rep 1 Cu.f (Cu.rep 8 Cu.t (Cu.rep 6 Cu.f (Cu.rep 137 Cu.t (Cu.rep 27 Cu.f []))))))) 146 (fun kq us_ w' => ∃ (x4_1 : Int) (x141000_1 : Rt.Tb), (Cu.nth us_ 1) = .int .i64 x4_1 ∧ Aside0 (gimballaw27_RateTables.l0 kq l0 x4_1 x141000_1 = some r) ∧ Aside0 (kq ≤ k) ∧ Aside0 (IsS65 w w' g140 x141000_1) ∧ Aside0 (Below w.heap.size w w')) k ?_ (by kernel_rfl) (by kernel_rfl) ?_
 · try dsimp only [Cu.pick, Cu.rep, Cu.nth]
   exact ⟨(0), (t139), Sq.e, H', ⟨Nat.le_refl _⟩, ⟨by repeat (first | (with_reducible first | exact HI140.out | apply IsS65.alloc | apply IsS65.drewN | apply IsS65.drew | apply IsS65.set_0) | exact HI140.out)⟩, ⟨by repeat (first | (with_reducible first | exact HB.out | apply below_alloc | apply pw_below_drewN | apply below_drew1 | refine below_set ?_ (IsS65.ge HI140.out)) | exact HB.out)⟩⟩
 ·
  intro gk wr u2 u4 u5 u6 u7 u8 u9 u10 u11 u18 u19 u20 u21 u22 u23 u24 u25 u26 u27 u28 u29 u30 u31 u32 u33 u34 u35 u36 u37 u38 u39 u40 u41 u42 u43 u44 u45 u46 u47 u48 u49 u50 u51 u52 u53 u54 u55 u56 u57 u58 u59 u60 u61 u62 u63 u64 u65 u66 u67 u68 u69 u70 u71 u72 u73 u74 u75 u76 u77 u78 u79 u80 u81 u82 u83 u84 u85 u86 u87 u88 u89 u90 u91 u92 u93 u94 u95 u96 u97 u98 u99 u100 u101 u102 u103 u104 u105 u106 u107 u108 u109 u110 u111 u112 u113 u114 u115 u116 u117 u118 u119 u120 u121 u122 u123 u124 u125 u126 u127 u128 u129 u130 u131 u132 u133 u134 u135 u136 u137 u138 u139 u140 u141 u142 u143 u144 u145 u146 u147 u148 u149 u150 u151 u152 u153 u154
  try dsimp only [Cu.over, Cu.rep, Cu.nth]
  intro hrel _ _ _ _
  clear H'; (try clear p2)
  obtain ⟨x4_1, x141000_1, rfl, HA, HK1, HI140, HB⟩ := hrel
  cases gk with
  | zero => exact absurd HA.out (by simp [gimballaw27_RateTables.l0])
  | succ k1 =>
   have H := HA.out
   clear HA
   simp only [gimballaw27_RateTables.l0] at H
   have HC4 := Aside0.mk H
   clear H
   go_upto_region 5 with (fail)
   repeat (go_quiet (fail); go_upto_region 5 with (fail))
   refine Cu.wp_cut (Cu.rep 18 Cu.f (Cu.rep 137 Cu.t (Cu.rep 27 Cu.f []))) 137 (fun us_ wc => ∃ (kq : Nat) (x25_3 : Bool), (Cu.nth us_ 7) = .bool x25_3 ∧ Aside0 (gimballaw27_RateTables.j1 kq l0 x4_1 x25_3 x141000_1 = some r) ∧ Aside0 (kq ≤ k1) ∧ Aside0 (IsS65 w wc g140 x141000_1) ∧ Aside0 (Below w.heap.size w wc)) ?_ ?_
   ·
    intro _ _ _ _
    have H := HC4.out
    clear HC4
    by_cases c5 : x4_1 < (l0.length : Int)
    ·rw [if_pos c5] at H
     have c5b0 : decide (x4_1 < (l0.length : Int)) = true := decide_eq_true c5
     clear c5
     (first | rw [c5b0] | (simp only [i64_w, i32_w]; rw [c5b0]) | skip)
     have H' := Aside0.mk H
     clear H
     go_wp2
     repeat (go_quiet (fail); try go_wp2)
     refine Cu.meet (by assumption) ?_ (by kernel_rfl) (by kernel_rfl)
     try dsimp only [Cu.pick, Cu.rep, Cu.nth]
     exact ⟨_, (decide (x4_1 < 60)), Sq.e, H', ⟨by have := HK1.out; first | omega | exact Nat.le_refl _⟩, ⟨by repeat (first | (with_reducible first | exact HI140.out | apply IsS65.alloc | apply IsS65.drewN | apply IsS65.drew | apply IsS65.set_0) | exact HI140.out)⟩, ⟨by repeat (first | (with_reducible first | exact HB.out | apply below_alloc | apply pw_below_drewN | apply below_drew1 | refine below_set ?_ (IsS65.ge HI140.out)) | exact HB.out)⟩⟩
    ·rw [if_neg c5] at H
     have c5b0 : decide (x4_1 < (l0.length : Int)) = false := decide_eq_false c5
     clear c5
     (first | rw [c5b0] | (simp only [i64_w, i32_w]; rw [c5b0]) | skip)
     have H' := Aside0.mk H
     clear H
     go_wp2
     repeat (go_quiet (fail); try go_wp2)
     refine Cu.meet (by assumption) ?_ (by kernel_rfl) (by kernel_rfl)
     try dsimp only [Cu.pick, Cu.rep, Cu.nth]
     exact ⟨_, (false), Sq.e, H', ⟨by have := HK1.out; first | omega | exact Nat.le_refl _⟩, ⟨by repeat (first | (with_reducible first | exact HI140.out | apply IsS65.alloc | apply IsS65.drewN | apply IsS65.drew | apply IsS65.set_0) | exact HI140.out)⟩, ⟨by repeat (first | (with_reducible first | exact HB.out | apply below_alloc | apply pw_below_drewN | apply below_drew1 | refine below_set ?_ (IsS65.ge HI140.out)) | exact HB.out)⟩⟩
   ·
    intro wc u18 u19 u20 u21 u22 u23 u24 u25 u26 u27 u28 u29 u30 u31 u32 u33 u34 u35 u36 u37 u38 u39 u40 u41 u42 u43 u44 u45 u46 u47 u48 u49 u50 u51 u52 u53 u54 u55 u56 u57 u58 u59 u60 u61 u62 u63 u64 u65 u66 u67 u68 u69 u70 u71 u72 u73 u74 u75 u76 u77 u78 u79 u80 u81 u82 u83 u84 u85 u86 u87 u88 u89 u90 u91 u92 u93 u94 u95 u96 u97 u98 u99 u100 u101 u102 u103 u104 u105 u106 u107 u108 u109 u110 u111 u112 u113 u114 u115 u116 u117 u118 u119 u120 u121 u122 u123 u124 u125 u126 u127 u128 u129 u130 u131 u132 u133 u134 u135 u136 u137 u138 u139 u140 u141 u142 u143 u144 u145 u146 u147 u148 u149 u150 u151 u152 u153 u154
    try dsimp only [Cu.over, Cu.rep, Cu.nth]
    intro hcut
    clear HC4
    obtain ⟨kq, x25_3, rfl, HA, HJ3, HI140, HB⟩ := hcut
    cases kq with
    | zero => exact absurd HA.out (by simp [gimballaw27_RateTables.j1])
    | succ kj3 =>
     have H := HA.out
     clear HA
     simp only [gimballaw27_RateTables.j1] at H
     by_cases c6 : x25_3 = true
     ·subst c6
      have H1 : (if 0 ≤ x4_1 then (if x4_1 < (l0.length : Int) then ((gimbalref25_MaySub.f ((rd_T31 l0 x4_1).f1.f0) ((rd_T31 l0 x4_1).f1.f1) ((rd_T31 l0 x4_1).f1.f2) ((rd_T31 l0 x4_1).f1.f3)).bind fun t143 => (if t143 = true then ((rate_Table_All.f x141000_1).bind fun bt144 => ((rate_Table_Add.f bt144.2 ((rd_T31 l0 x4_1).f1.f0) ((rd_T31 l0 x4_1).f1.f1) ((rd_T31 l0 x4_1).f1.f2) ((rd_T31 l0 x4_1).f1.f3)).bind fun bt148 => ((gimballaw27_num.f bt148.1).bind fun t150 => (if t150 = 0 then ((rate_Table_All.f bt148.2).bind fun bt151 => (gimballaw27_RateTables.l1 kj3 l0 x4_1 (bt144.1.length : Int) bt151.1 0 0 bt151.2 ((rd_T31 l0 x4_1).f1.f0) ((rd_T31 l0 x4_1).f1.f1) ((rd_T31 l0 x4_1).f1.f2) ((rd_T31 l0 x4_1).f1.f3))) else (some false))))) else (gimballaw27_RateTables.l0 kj3 l0 (wrap64 (x4_1 + 1)) x141000_1))) else (none)) else (none)) = some r := by rw [if_pos rfl] at H; exact H
      clear H
      have H := H1
      clear H1
      by_cases c7 : 0 ≤ x4_1
      ·rw [if_pos c7] at H
       have c7b0 : decide (0 ≤ x4_1) = true := decide_eq_true c7
       clear c7
       by_cases c8 : x4_1 < (l0.length : Int)
       ·rw [if_pos c8] at H
        have c8b0 : decide (x4_1 < (l0.length : Int)) = true := decide_eq_true c8
        clear c8
        replace H := Option.bind_eq_some_iff.mp H
        obtain ⟨t143, A90, H⟩ := H
        replace H : (if t143 = true then ((rate_Table_All.f x141000_1).bind fun bt144 => ((rate_Table_Add.f bt144.2 ((rd_T31 l0 x4_1).f1.f0) ((rd_T31 l0 x4_1).f1.f1) ((rd_T31 l0 x4_1).f1.f2) ((rd_T31 l0 x4_1).f1.f3)).bind fun bt148 => ((gimballaw27_num.f bt148.1).bind fun t150 => (if t150 = 0 then ((rate_Table_All.f bt148.2).bind fun bt151 => (gimballaw27_RateTables.l1 kj3 l0 x4_1 (bt144.1.length : Int) bt151.1 0 0 bt151.2 ((rd_T31 l0 x4_1).f1.f0) ((rd_T31 l0 x4_1).f1.f1) ((rd_T31 l0 x4_1).f1.f2) ((rd_T31 l0 x4_1).f1.f3))) else (some false))))) else (gimballaw27_RateTables.l0 kj3 l0 (wrap64 (x4_1 + 1)) x141000_1)) = some r := H
        have A9 := Aside0.mk A90
        clear A90
        by_cases c10 : t143 = true
        ·subst c10
         have H1 : ((rate_Table_All.f x141000_1).bind fun bt144 => ((rate_Table_Add.f bt144.2 ((rd_T31 l0 x4_1).f1.f0) ((rd_T31 l0 x4_1).f1.f1) ((rd_T31 l0 x4_1).f1.f2) ((rd_T31 l0 x4_1).f1.f3)).bind fun bt148 => ((gimballaw27_num.f bt148.1).bind fun t150 => (if t150 = 0 then ((rate_Table_All.f bt148.2).bind fun bt151 => (gimballaw27_RateTables.l1 kj3 l0 x4_1 (bt144.1.length : Int) bt151.1 0 0 bt151.2 ((rd_T31 l0 x4_1).f1.f0) ((rd_T31 l0 x4_1).f1.f1) ((rd_T31 l0 x4_1).f1.f2) ((rd_T31 l0 x4_1).f1.f3))) else (some false))))) = some r := by rw [if_pos rfl] at H; exact H
         clear H
         have H := H1
         clear H1
         replace H := Option.bind_eq_some_iff.mp H
         obtain ⟨⟨t144, t147⟩, A110, H⟩ := H
         replace H : ((rate_Table_Add.f t147 ((rd_T31 l0 x4_1).f1.f0) ((rd_T31 l0 x4_1).f1.f1) ((rd_T31 l0 x4_1).f1.f2) ((rd_T31 l0 x4_1).f1.f3)).bind fun bt148 => ((gimballaw27_num.f bt148.1).bind fun t150 => (if t150 = 0 then ((rate_Table_All.f bt148.2).bind fun bt151 => (gimballaw27_RateTables.l1 kj3 l0 x4_1 (t144.length : Int) bt151.1 0 0 bt151.2 ((rd_T31 l0 x4_1).f1.f0) ((rd_T31 l0 x4_1).f1.f1) ((rd_T31 l0 x4_1).f1.f2) ((rd_T31 l0 x4_1).f1.f3))) else (some false)))) = some r := H
         have A11 := Aside0.mk A110
         clear A110
         replace H := Option.bind_eq_some_iff.mp H
         obtain ⟨⟨t148, t149⟩, A120, H⟩ := H
         replace H : ((gimballaw27_num.f t148).bind fun t150 => (if t150 = 0 then ((rate_Table_All.f t149).bind fun bt151 => (gimballaw27_RateTables.l1 kj3 l0 x4_1 (t144.length : Int) bt151.1 0 0 bt151.2 ((rd_T31 l0 x4_1).f1.f0) ((rd_T31 l0 x4_1).f1.f1) ((rd_T31 l0 x4_1).f1.f2) ((rd_T31 l0 x4_1).f1.f3))) else (some false))) = some r := H
         have A12 := Aside0.mk A120
         clear A120
         replace H := Option.bind_eq_some_iff.mp H
         obtain ⟨t150, A130, H⟩ := H
         replace H : (if t150 = 0 then ((rate_Table_All.f t149).bind fun bt151 => (gimballaw27_RateTables.l1 kj3 l0 x4_1 (t144.length : Int) bt151.1 0 0 bt151.2 ((rd_T31 l0 x4_1).f1.f0) ((rd_T31 l0 x4_1).f1.f1) ((rd_T31 l0 x4_1).f1.f2) ((rd_T31 l0 x4_1).f1.f3))) else (some false)) = some r := H
         have A13 := Aside0.mk A130
         clear A130
         by_cases c14 : t150 = 0
         ·rw [if_pos c14] at H
          have c14b0 : (t150 == 0) = true := beq_iff_eq.mpr c14
          have c14b1 : (t150 != 0) = false := bne_eq_false_iff_eq.mpr c14
          clear c14
          replace H := Option.bind_eq_some_iff.mp H
          obtain ⟨⟨t151, t154⟩, A150, H⟩ := H
          replace H : (gimballaw27_RateTables.l1 kj3 l0 x4_1 (t144.length : Int) t151 0 0 t154 ((rd_T31 l0 x4_1).f1.f0) ((rd_T31 l0 x4_1).f1.f1) ((rd_T31 l0 x4_1).f1.f2) ((rd_T31 l0 x4_1).f1.f3)) = some r := H
          have A15 := Aside0.mk A150
          clear A150
          have H' := Aside0.mk H
          clear H
          have p141 : 0 ≤ (x4_1 : Int) := of_decide_eq_true (by first | (with_reducible assumption) | assumption)
          have q141 : x4_1 < (l0.length : Int) := of_decide_eq_true (by first | (with_reducible assumption) | assumption)
          obtain ⟨ad141, e141, hx141_0, hx141_1, hx141_2, hx141_3, hx141_4, hx141_5⟩ := at_T31 HR0.out x4_1 p141 q141
          cases e141
          replace hx141_0 := (HB.out.cell (World.block_lt_of_cell? w _ hx141_0)).trans hx141_0
          replace hx141_1 := (HB.out.cell (World.block_lt_of_cell? w _ hx141_1)).trans hx141_1
          replace hx141_2 := (HB.out.cell (World.block_lt_of_cell? w _ hx141_2)).trans hx141_2
          replace hx141_3 := (HB.out.cell (World.block_lt_of_cell? w _ hx141_3)).trans hx141_3
          replace hx141_4 := (HB.out.cell (World.block_lt_of_cell? w _ hx141_4)).trans hx141_4
          replace hx141_5 := (HB.out.cell (World.block_lt_of_cell? w _ hx141_5)).trans hx141_5
          replace p141 := eq_true p141
          replace q141 := eq_true q141
          go_wp2_with (first | ((with_reducible refine gate_dst (N := 5) rfl ?_); (try (refine gate_guard (by rfl) ?_; dsimp only)); refine box_event ?hg (N := 5) ?hd (cs := #[.int .i64 0, .int .i64 0, .int .i64 0, .int .i64 0]) (t := 29) ?hr ?_; (case hd => rfl); (case hg => rfl); (case hr => first | (go_simp; done) | (go_simp; rfl)); intro gb142 hg w16 hbox hb; have n0_ := Aside0.mk (IsS65.below (by repeat (first | (with_reducible first | exact HI140.out | apply IsS65.alloc | apply IsS65.drewN | apply IsS65.drew | apply IsS65.set_0) | exact HI140.out)) hb); have n1_ := Aside0.mk (below_step (by repeat (first | (with_reducible first | exact HB.out | apply below_alloc | apply pw_below_drewN | apply below_drew1 | refine below_set ?_ (IsS65.ge HI140.out)) | exact HB.out)) hb); have n2_ := Aside0.mk (hbox); have n3_ := Aside0.mk ((by rw [hg]; exact (below_size (by repeat (first | (with_reducible first | exact HB.out | apply below_alloc | apply pw_below_drewN | apply below_drew1 | refine below_set ?_ (IsS65.ge HI140.out)) | exact HB.out))) : w.heap.size ≤ gb142)); have n4_ := Aside0.mk ((by rw [hg]; exact (below_size (by repeat (first | (with_reducible first | exact HB.out | apply below_alloc | apply pw_below_drewN | apply below_drew1 | refine below_set ?_ (IsS65.ge HI140.out)) | exact HB.out))) : w.heap.size ≤ gb142)); have n5_ := Aside0.mk ((by rw [hg]; exact Nat.ne_of_lt (IsS65.lt (show IsS65 w _ g140 x141000_1 from by repeat (first | (with_reducible first | exact HI140.out | apply IsS65.alloc | apply IsS65.drewN | apply IsS65.drew | apply IsS65.set_0) | exact HI140.out))) : g140 ≠ gb142)); have n6_ := Aside0.mk ((by rw [hg]; exact Nat.ne_of_gt (IsS65.lt (show IsS65 w _ g140 x141000_1 from by repeat (first | (with_reducible first | exact HI140.out | apply IsS65.alloc | apply IsS65.drewN | apply IsS65.drew | apply IsS65.set_0) | exact HI140.out))) : gb142 ≠ g140)); clear HI140; clear HB; have HI140 := n0_; have HB := n1_; have BK142 := n2_; have GW142 := n3_; have GE142 := n4_; have NB140_142 := n5_; have NB142_140 := n6_; clear n0_ n1_ n2_ n3_ n4_ n5_ n6_; clear hb hbox hg; have b17 := NB142_140.out; have d17 := NB140_142.out; obtain ⟨z18_0, z18_1, z18_2, z18_3⟩ := Sq.c4 BK142.out; obtain ⟨y18_0, y18_1, y18_2, y18_3⟩ := Sq.f4 BK142.out) | (go_at_call 15; (with_reducible refine (gimbalref25_MaySub.calls ((rd_T31 l0 x4_1).f1.f0) ((rd_T31 l0 x4_1).f1.f1) ((rd_T31 l0 x4_1).f1.f2) ((rd_T31 l0 x4_1).f1.f3) true _ A9.out).mono ?_); rintro e w19 ⟨rfl, hb⟩; have n0_ := Aside0.mk (IsS65.below (show IsS65 w ((((w16.setCell ⟨gb142, 0, none⟩ (.int .i64 ((rd_T31 l0 x4_1).f1.f0))).setCell ⟨gb142, 1, none⟩ (.int .i64 ((rd_T31 l0 x4_1).f1.f1))).setCell ⟨gb142, 2, none⟩ (.int .i64 ((rd_T31 l0 x4_1).f1.f2))).setCell ⟨gb142, 3, none⟩ (.int .i64 ((rd_T31 l0 x4_1).f1.f3))) g140 x141000_1 from by repeat (first | (with_reducible first | exact HI140.out | apply IsS65.alloc | apply IsS65.drewN | apply IsS65.drew | apply IsS65.set_0 | refine IsS65.far ?_ NB140_142.out _) | exact HI140.out)) hb); have n1_ := Aside0.mk (blk_below (g := gb142) (o := .cells #[.int .i64 ((rd_T31 l0 x4_1).f1.f0), .int .i64 ((rd_T31 l0 x4_1).f1.f1), .int .i64 ((rd_T31 l0 x4_1).f1.f2), .int .i64 ((rd_T31 l0 x4_1).f1.f3)] 29 (0, 0)) (Sq.B BK142.out) hb); have n2_ := Aside0.mk (below_step (by repeat (first | (with_reducible first | exact HB.out | apply below_alloc | apply pw_below_drewN | apply below_drew1 | refine below_set ?_ (IsS65.ge HI140.out) | refine below_set ?_ GE142.out) | exact HB.out)) hb); clear HI140; clear BK142; clear HB; have HI140 := n0_; have BK142 := n1_; have HB := n2_; clear n0_ n1_ n2_; (try clear hb); (try clear hb2); (try clear hk); (try clear hi)) | (go_at_call 16; (with_reducible refine (rate_Table_All.calls g140 x141000_1 t144 t147 w _ ?side1 ?side2 A11.out).mono ?_); (case side1 => repeat (first | (with_reducible first | exact HI140.out | apply IsS65.alloc | apply IsS65.drewN | apply IsS65.drew | apply IsS65.set_0 | refine IsS65.far ?_ NB140_142.out _) | exact HI140.out)); (case side2 => repeat (first | (with_reducible first | exact HB.out | apply below_alloc | apply pw_below_drewN | apply below_drew1 | refine below_set ?_ (IsS65.ge HI140.out) | refine below_set ?_ GE142.out) | exact HB.out)); rintro e w20 ⟨v145, rfl, ho0, hi, hb, hk⟩; have HO146 := Aside0.mk (Kd.R_lower (Kd.R_newB ho0 (g := gb142) (o := .cells #[.int .i64 ((rd_T31 l0 x4_1).f1.f0), .int .i64 ((rd_T31 l0 x4_1).f1.f1), .int .i64 ((rd_T31 l0 x4_1).f1.f2), .int .i64 ((rd_T31 l0 x4_1).f1.f3)] 29 (0, 0)) (Sq.b BK142.out)) (below_size (by repeat (first | (with_reducible first | exact HB.out | apply below_alloc | apply pw_below_drewN | apply below_drew1 | refine below_set ?_ (IsS65.ge HI140.out) | refine below_set ?_ GE142.out) | exact HB.out)))); replace BK142 := Aside0.mk (KeepBut.blk hk (g' := gb142) (o := .cells #[.int .i64 ((rd_T31 l0 x4_1).f1.f0), .int .i64 ((rd_T31 l0 x4_1).f1.f1), .int .i64 ((rd_T31 l0 x4_1).f1.f2), .int .i64 ((rd_T31 l0 x4_1).f1.f3)] 29 (0, 0)) (Sq.b BK142.out) NB142_140.out (by simp)); replace HB := Aside0.mk (hb); replace HI140 := Aside0.mk (hi); (try clear hb); (try clear hb2); (try clear hk); (try clear hi); (try clear ho0); obtain ⟨Ao21, co21, eo21⟩ := Kd.R_slice HO146.out; subst eo21; obtain ⟨z22_0, z22_1, z22_2, z22_3⟩ := Sq.c4 BK142.out; obtain ⟨y22_0, y22_1, y22_2, y22_3⟩ := Sq.f4 BK142.out) | (go_at_call 9; (with_reducible refine (rate_Table_Add.calls g140 t147 ((rd_T31 l0 x4_1).f1.f0) ((rd_T31 l0 x4_1).f1.f1) ((rd_T31 l0 x4_1).f1.f2) ((rd_T31 l0 x4_1).f1.f3) t148 t149 w _ ?side1 ?side2 A12.out).mono ?_); (case side1 => repeat (first | (with_reducible first | exact HI140.out | apply IsS65.alloc | apply IsS65.drewN | apply IsS65.drew | apply IsS65.set_0 | refine IsS65.far ?_ NB140_142.out _) | exact HI140.out)); (case side2 => repeat (first | (with_reducible first | exact HB.out | apply below_alloc | apply pw_below_drewN | apply below_drew1 | refine below_set ?_ (IsS65.ge HI140.out) | refine below_set ?_ GE142.out) | exact HB.out)); rintro e w23 ⟨rfl, hi, hb, hk⟩; replace BK142 := Aside0.mk (KeepBut.blk hk (g' := gb142) (o := .cells #[.int .i64 ((rd_T31 l0 x4_1).f1.f0), .int .i64 ((rd_T31 l0 x4_1).f1.f1), .int .i64 ((rd_T31 l0 x4_1).f1.f2), .int .i64 ((rd_T31 l0 x4_1).f1.f3)] 29 (0, 0)) (Sq.b BK142.out) NB142_140.out (by simp)); replace HO146 := Aside0.mk (Kd.R_mono (Kd.R_keep (IsS65.apart (show IsS65 w _ g140 t147 from by repeat (first | (with_reducible first | exact HI140.out | apply IsS65.alloc | apply IsS65.drewN | apply IsS65.drew | apply IsS65.set_0 | refine IsS65.far ?_ NB140_142.out _) | exact HI140.out)) (Sq.rR HO146.out) (by decide)) hk (fun _ h => h.2)) (fun _ h => h.1)); replace HB := Aside0.mk (hb); replace HI140 := Aside0.mk (hi); (try clear hb); (try clear hb2); (try clear hk); (try clear hi)) | (go_at_call 8; (with_reducible refine (gimballaw27_num.calls t148 t150 _ A13.out).mono ?_); rintro e w' ⟨rfl, ⟨nd, rfl⟩⟩; (try first | exact ⟨rfl, _, World.drewN_drewN _ _ _⟩ | exact ⟨rfl, _, Eq.trans (World.drewN_drewN _ _ _) (congrArg (World.drewN _) (Nat.add_assoc _ _ _))⟩)) | (go_at_call 16; (with_reducible refine (rate_Table_All.calls g140 t149 t151 t154 w _ ?side1 ?side2 A15.out).mono ?_); (case side1 => repeat (first | (with_reducible first | exact HI140.out | apply IsS65.alloc | apply IsS65.drewN | apply IsS65.drew | apply IsS65.set_0 | refine IsS65.far ?_ NB140_142.out _) | exact HI140.out)); (case side2 => repeat (first | (with_reducible first | exact HB.out | apply below_alloc | apply pw_below_drewN | apply below_drew1 | refine below_set ?_ (IsS65.ge HI140.out) | refine below_set ?_ GE142.out) | exact HB.out)); rintro e w24 ⟨v152, rfl, ho0, hi, hb, hk⟩; have HO153 := Aside0.mk (Kd.R_lower (Kd.R_newB (Kd.R_new' ho0 (Kd.R_lt (Sq.rR HO146.out))) (g := gb142) (o := .cells #[.int .i64 ((rd_T31 l0 x4_1).f1.f0), .int .i64 ((rd_T31 l0 x4_1).f1.f1), .int .i64 ((rd_T31 l0 x4_1).f1.f2), .int .i64 ((rd_T31 l0 x4_1).f1.f3)] 29 (0, 0)) (Sq.b BK142.out)) (below_size (by repeat (first | (with_reducible first | exact HB.out | apply below_alloc | apply pw_below_drewN | apply below_drew1 | refine below_set ?_ (IsS65.ge HI140.out) | refine below_set ?_ GE142.out) | exact HB.out)))); replace BK142 := Aside0.mk (KeepBut.blk hk (g' := gb142) (o := .cells #[.int .i64 ((rd_T31 l0 x4_1).f1.f0), .int .i64 ((rd_T31 l0 x4_1).f1.f1), .int .i64 ((rd_T31 l0 x4_1).f1.f2), .int .i64 ((rd_T31 l0 x4_1).f1.f3)] 29 (0, 0)) (Sq.b BK142.out) NB142_140.out (by simp)); replace HO146 := Aside0.mk (Kd.R_mono (Kd.R_told (Kd.R_oldK (IsS65.apart (show IsS65 w _ g140 t149 from by repeat (first | (with_reducible first | exact HI140.out | apply IsS65.alloc | apply IsS65.drewN | apply IsS65.drew | apply IsS65.set_0 | refine IsS65.far ?_ NB140_142.out _) | exact HI140.out)) (Sq.rR HO146.out) (by decide)) hk) (Kd.R_base ho0)) (fun _ h_ => h_.1)); replace HB := Aside0.mk (hb); replace HI140 := Aside0.mk (hi); (try clear hb); (try clear hb2); (try clear hk); (try clear hi); (try clear ho0)))
          repeat (go_quiet (first | ((with_reducible refine gate_dst (N := 5) rfl ?_); (try (refine gate_guard (by rfl) ?_; dsimp only)); refine box_event ?hg (N := 5) ?hd (cs := #[.int .i64 0, .int .i64 0, .int .i64 0, .int .i64 0]) (t := 29) ?hr ?_; (case hd => rfl); (case hg => rfl); (case hr => first | (go_simp; done) | (go_simp; rfl)); intro gb142 hg w16 hbox hb; have n0_ := Aside0.mk (IsS65.below (by repeat (first | (with_reducible first | exact HI140.out | apply IsS65.alloc | apply IsS65.drewN | apply IsS65.drew | apply IsS65.set_0) | exact HI140.out)) hb); have n1_ := Aside0.mk (below_step (by repeat (first | (with_reducible first | exact HB.out | apply below_alloc | apply pw_below_drewN | apply below_drew1 | refine below_set ?_ (IsS65.ge HI140.out)) | exact HB.out)) hb); have n2_ := Aside0.mk (hbox); have n3_ := Aside0.mk ((by rw [hg]; exact (below_size (by repeat (first | (with_reducible first | exact HB.out | apply below_alloc | apply pw_below_drewN | apply below_drew1 | refine below_set ?_ (IsS65.ge HI140.out)) | exact HB.out))) : w.heap.size ≤ gb142)); have n4_ := Aside0.mk ((by rw [hg]; exact (below_size (by repeat (first | (with_reducible first | exact HB.out | apply below_alloc | apply pw_below_drewN | apply below_drew1 | refine below_set ?_ (IsS65.ge HI140.out)) | exact HB.out))) : w.heap.size ≤ gb142)); have n5_ := Aside0.mk ((by rw [hg]; exact Nat.ne_of_lt (IsS65.lt (show IsS65 w _ g140 x141000_1 from by repeat (first | (with_reducible first | exact HI140.out | apply IsS65.alloc | apply IsS65.drewN | apply IsS65.drew | apply IsS65.set_0) | exact HI140.out))) : g140 ≠ gb142)); have n6_ := Aside0.mk ((by rw [hg]; exact Nat.ne_of_gt (IsS65.lt (show IsS65 w _ g140 x141000_1 from by repeat (first | (with_reducible first | exact HI140.out | apply IsS65.alloc | apply IsS65.drewN | apply IsS65.drew | apply IsS65.set_0) | exact HI140.out))) : gb142 ≠ g140)); clear HI140; clear HB; have HI140 := n0_; have HB := n1_; have BK142 := n2_; have GW142 := n3_; have GE142 := n4_; have NB140_142 := n5_; have NB142_140 := n6_; clear n0_ n1_ n2_ n3_ n4_ n5_ n6_; clear hb hbox hg; have b17 := NB142_140.out; have d17 := NB140_142.out; obtain ⟨z18_0, z18_1, z18_2, z18_3⟩ := Sq.c4 BK142.out; obtain ⟨y18_0, y18_1, y18_2, y18_3⟩ := Sq.f4 BK142.out) | (go_at_call 15; (with_reducible refine (gimbalref25_MaySub.calls ((rd_T31 l0 x4_1).f1.f0) ((rd_T31 l0 x4_1).f1.f1) ((rd_T31 l0 x4_1).f1.f2) ((rd_T31 l0 x4_1).f1.f3) true _ A9.out).mono ?_); rintro e w19 ⟨rfl, hb⟩; have n0_ := Aside0.mk (IsS65.below (show IsS65 w ((((w16.setCell ⟨gb142, 0, none⟩ (.int .i64 ((rd_T31 l0 x4_1).f1.f0))).setCell ⟨gb142, 1, none⟩ (.int .i64 ((rd_T31 l0 x4_1).f1.f1))).setCell ⟨gb142, 2, none⟩ (.int .i64 ((rd_T31 l0 x4_1).f1.f2))).setCell ⟨gb142, 3, none⟩ (.int .i64 ((rd_T31 l0 x4_1).f1.f3))) g140 x141000_1 from by repeat (first | (with_reducible first | exact HI140.out | apply IsS65.alloc | apply IsS65.drewN | apply IsS65.drew | apply IsS65.set_0 | refine IsS65.far ?_ NB140_142.out _) | exact HI140.out)) hb); have n1_ := Aside0.mk (blk_below (g := gb142) (o := .cells #[.int .i64 ((rd_T31 l0 x4_1).f1.f0), .int .i64 ((rd_T31 l0 x4_1).f1.f1), .int .i64 ((rd_T31 l0 x4_1).f1.f2), .int .i64 ((rd_T31 l0 x4_1).f1.f3)] 29 (0, 0)) (Sq.B BK142.out) hb); have n2_ := Aside0.mk (below_step (by repeat (first | (with_reducible first | exact HB.out | apply below_alloc | apply pw_below_drewN | apply below_drew1 | refine below_set ?_ (IsS65.ge HI140.out) | refine below_set ?_ GE142.out) | exact HB.out)) hb); clear HI140; clear BK142; clear HB; have HI140 := n0_; have BK142 := n1_; have HB := n2_; clear n0_ n1_ n2_; (try clear hb); (try clear hb2); (try clear hk); (try clear hi)) | (go_at_call 16; (with_reducible refine (rate_Table_All.calls g140 x141000_1 t144 t147 w _ ?side1 ?side2 A11.out).mono ?_); (case side1 => repeat (first | (with_reducible first | exact HI140.out | apply IsS65.alloc | apply IsS65.drewN | apply IsS65.drew | apply IsS65.set_0 | refine IsS65.far ?_ NB140_142.out _) | exact HI140.out)); (case side2 => repeat (first | (with_reducible first | exact HB.out | apply below_alloc | apply pw_below_drewN | apply below_drew1 | refine below_set ?_ (IsS65.ge HI140.out) | refine below_set ?_ GE142.out) | exact HB.out)); rintro e w20 ⟨v145, rfl, ho0, hi, hb, hk⟩; have HO146 := Aside0.mk (Kd.R_lower (Kd.R_newB ho0 (g := gb142) (o := .cells #[.int .i64 ((rd_T31 l0 x4_1).f1.f0), .int .i64 ((rd_T31 l0 x4_1).f1.f1), .int .i64 ((rd_T31 l0 x4_1).f1.f2), .int .i64 ((rd_T31 l0 x4_1).f1.f3)] 29 (0, 0)) (Sq.b BK142.out)) (below_size (by repeat (first | (with_reducible first | exact HB.out | apply below_alloc | apply pw_below_drewN | apply below_drew1 | refine below_set ?_ (IsS65.ge HI140.out) | refine below_set ?_ GE142.out) | exact HB.out)))); replace BK142 := Aside0.mk (KeepBut.blk hk (g' := gb142) (o := .cells #[.int .i64 ((rd_T31 l0 x4_1).f1.f0), .int .i64 ((rd_T31 l0 x4_1).f1.f1), .int .i64 ((rd_T31 l0 x4_1).f1.f2), .int .i64 ((rd_T31 l0 x4_1).f1.f3)] 29 (0, 0)) (Sq.b BK142.out) NB142_140.out (by simp)); replace HB := Aside0.mk (hb); replace HI140 := Aside0.mk (hi); (try clear hb); (try clear hb2); (try clear hk); (try clear hi); (try clear ho0); obtain ⟨Ao21, co21, eo21⟩ := Kd.R_slice HO146.out; subst eo21; obtain ⟨z22_0, z22_1, z22_2, z22_3⟩ := Sq.c4 BK142.out; obtain ⟨y22_0, y22_1, y22_2, y22_3⟩ := Sq.f4 BK142.out) | (go_at_call 9; (with_reducible refine (rate_Table_Add.calls g140 t147 ((rd_T31 l0 x4_1).f1.f0) ((rd_T31 l0 x4_1).f1.f1) ((rd_T31 l0 x4_1).f1.f2) ((rd_T31 l0 x4_1).f1.f3) t148 t149 w _ ?side1 ?side2 A12.out).mono ?_); (case side1 => repeat (first | (with_reducible first | exact HI140.out | apply IsS65.alloc | apply IsS65.drewN | apply IsS65.drew | apply IsS65.set_0 | refine IsS65.far ?_ NB140_142.out _) | exact HI140.out)); (case side2 => repeat (first | (with_reducible first | exact HB.out | apply below_alloc | apply pw_below_drewN | apply below_drew1 | refine below_set ?_ (IsS65.ge HI140.out) | refine below_set ?_ GE142.out) | exact HB.out)); rintro e w23 ⟨rfl, hi, hb, hk⟩; replace BK142 := Aside0.mk (KeepBut.blk hk (g' := gb142) (o := .cells #[.int .i64 ((rd_T31 l0 x4_1).f1.f0), .int .i64 ((rd_T31 l0 x4_1).f1.f1), .int .i64 ((rd_T31 l0 x4_1).f1.f2), .int .i64 ((rd_T31 l0 x4_1).f1.f3)] 29 (0, 0)) (Sq.b BK142.out) NB142_140.out (by simp)); replace HO146 := Aside0.mk (Kd.R_mono (Kd.R_keep (IsS65.apart (show IsS65 w _ g140 t147 from by repeat (first | (with_reducible first | exact HI140.out | apply IsS65.alloc | apply IsS65.drewN | apply IsS65.drew | apply IsS65.set_0 | refine IsS65.far ?_ NB140_142.out _) | exact HI140.out)) (Sq.rR HO146.out) (by decide)) hk (fun _ h => h.2)) (fun _ h => h.1)); replace HB := Aside0.mk (hb); replace HI140 := Aside0.mk (hi); (try clear hb); (try clear hb2); (try clear hk); (try clear hi)) | (go_at_call 8; (with_reducible refine (gimballaw27_num.calls t148 t150 _ A13.out).mono ?_); rintro e w' ⟨rfl, ⟨nd, rfl⟩⟩; (try first | exact ⟨rfl, _, World.drewN_drewN _ _ _⟩ | exact ⟨rfl, _, Eq.trans (World.drewN_drewN _ _ _) (congrArg (World.drewN _) (Nat.add_assoc _ _ _))⟩)) | (go_at_call 16; (with_reducible refine (rate_Table_All.calls g140 t149 t151 t154 w _ ?side1 ?side2 A15.out).mono ?_); (case side1 => repeat (first | (with_reducible first | exact HI140.out | apply IsS65.alloc | apply IsS65.drewN | apply IsS65.drew | apply IsS65.set_0 | refine IsS65.far ?_ NB140_142.out _) | exact HI140.out)); (case side2 => repeat (first | (with_reducible first | exact HB.out | apply below_alloc | apply pw_below_drewN | apply below_drew1 | refine below_set ?_ (IsS65.ge HI140.out) | refine below_set ?_ GE142.out) | exact HB.out)); rintro e w24 ⟨v152, rfl, ho0, hi, hb, hk⟩; have HO153 := Aside0.mk (Kd.R_lower (Kd.R_newB (Kd.R_new' ho0 (Kd.R_lt (Sq.rR HO146.out))) (g := gb142) (o := .cells #[.int .i64 ((rd_T31 l0 x4_1).f1.f0), .int .i64 ((rd_T31 l0 x4_1).f1.f1), .int .i64 ((rd_T31 l0 x4_1).f1.f2), .int .i64 ((rd_T31 l0 x4_1).f1.f3)] 29 (0, 0)) (Sq.b BK142.out)) (below_size (by repeat (first | (with_reducible first | exact HB.out | apply below_alloc | apply pw_below_drewN | apply below_drew1 | refine below_set ?_ (IsS65.ge HI140.out) | refine below_set ?_ GE142.out) | exact HB.out)))); replace BK142 := Aside0.mk (KeepBut.blk hk (g' := gb142) (o := .cells #[.int .i64 ((rd_T31 l0 x4_1).f1.f0), .int .i64 ((rd_T31 l0 x4_1).f1.f1), .int .i64 ((rd_T31 l0 x4_1).f1.f2), .int .i64 ((rd_T31 l0 x4_1).f1.f3)] 29 (0, 0)) (Sq.b BK142.out) NB142_140.out (by simp)); replace HO146 := Aside0.mk (Kd.R_mono (Kd.R_told (Kd.R_oldK (IsS65.apart (show IsS65 w _ g140 t149 from by repeat (first | (with_reducible first | exact HI140.out | apply IsS65.alloc | apply IsS65.drewN | apply IsS65.drew | apply IsS65.set_0 | refine IsS65.far ?_ NB140_142.out _) | exact HI140.out)) (Sq.rR HO146.out) (by decide)) hk) (Kd.R_base ho0)) (fun _ h_ => h_.1)); replace HB := Aside0.mk (hb); replace HI140 := Aside0.mk (hi); (try clear hb); (try clear hb2); (try clear hk); (try clear hi); (try clear ho0))); try go_wp2_with (first | ((with_reducible refine gate_dst (N := 5) rfl ?_); (try (refine gate_guard (by rfl) ?_; dsimp only)); refine box_event ?hg (N := 5) ?hd (cs := #[.int .i64 0, .int .i64 0, .int .i64 0, .int .i64 0]) (t := 29) ?hr ?_; (case hd => rfl); (case hg => rfl); (case hr => first | (go_simp; done) | (go_simp; rfl)); intro gb142 hg w16 hbox hb; have n0_ := Aside0.mk (IsS65.below (by repeat (first | (with_reducible first | exact HI140.out | apply IsS65.alloc | apply IsS65.drewN | apply IsS65.drew | apply IsS65.set_0) | exact HI140.out)) hb); have n1_ := Aside0.mk (below_step (by repeat (first | (with_reducible first | exact HB.out | apply below_alloc | apply pw_below_drewN | apply below_drew1 | refine below_set ?_ (IsS65.ge HI140.out)) | exact HB.out)) hb); have n2_ := Aside0.mk (hbox); have n3_ := Aside0.mk ((by rw [hg]; exact (below_size (by repeat (first | (with_reducible first | exact HB.out | apply below_alloc | apply pw_below_drewN | apply below_drew1 | refine below_set ?_ (IsS65.ge HI140.out)) | exact HB.out))) : w.heap.size ≤ gb142)); have n4_ := Aside0.mk ((by rw [hg]; exact (below_size (by repeat (first | (with_reducible first | exact HB.out | apply below_alloc | apply pw_below_drewN | apply below_drew1 | refine below_set ?_ (IsS65.ge HI140.out)) | exact HB.out))) : w.heap.size ≤ gb142)); have n5_ := Aside0.mk ((by rw [hg]; exact Nat.ne_of_lt (IsS65.lt (show IsS65 w _ g140 x141000_1 from by repeat (first | (with_reducible first | exact HI140.out | apply IsS65.alloc | apply IsS65.drewN | apply IsS65.drew | apply IsS65.set_0) | exact HI140.out))) : g140 ≠ gb142)); have n6_ := Aside0.mk ((by rw [hg]; exact Nat.ne_of_gt (IsS65.lt (show IsS65 w _ g140 x141000_1 from by repeat (first | (with_reducible first | exact HI140.out | apply IsS65.alloc | apply IsS65.drewN | apply IsS65.drew | apply IsS65.set_0) | exact HI140.out))) : gb142 ≠ g140)); clear HI140; clear HB; have HI140 := n0_; have HB := n1_; have BK142 := n2_; have GW142 := n3_; have GE142 := n4_; have NB140_142 := n5_; have NB142_140 := n6_; clear n0_ n1_ n2_ n3_ n4_ n5_ n6_; clear hb hbox hg; have b17 := NB142_140.out; have d17 := NB140_142.out; obtain ⟨z18_0, z18_1, z18_2, z18_3⟩ := Sq.c4 BK142.out; obtain ⟨y18_0, y18_1, y18_2, y18_3⟩ := Sq.f4 BK142.out) | (go_at_call 15; (with_reducible refine (gimbalref25_MaySub.calls ((rd_T31 l0 x4_1).f1.f0) ((rd_T31 l0 x4_1).f1.f1) ((rd_T31 l0 x4_1).f1.f2) ((rd_T31 l0 x4_1).f1.f3) true _ A9.out).mono ?_); rintro e w19 ⟨rfl, hb⟩; have n0_ := Aside0.mk (IsS65.below (show IsS65 w ((((w16.setCell ⟨gb142, 0, none⟩ (.int .i64 ((rd_T31 l0 x4_1).f1.f0))).setCell ⟨gb142, 1, none⟩ (.int .i64 ((rd_T31 l0 x4_1).f1.f1))).setCell ⟨gb142, 2, none⟩ (.int .i64 ((rd_T31 l0 x4_1).f1.f2))).setCell ⟨gb142, 3, none⟩ (.int .i64 ((rd_T31 l0 x4_1).f1.f3))) g140 x141000_1 from by repeat (first | (with_reducible first | exact HI140.out | apply IsS65.alloc | apply IsS65.drewN | apply IsS65.drew | apply IsS65.set_0 | refine IsS65.far ?_ NB140_142.out _) | exact HI140.out)) hb); have n1_ := Aside0.mk (blk_below (g := gb142) (o := .cells #[.int .i64 ((rd_T31 l0 x4_1).f1.f0), .int .i64 ((rd_T31 l0 x4_1).f1.f1), .int .i64 ((rd_T31 l0 x4_1).f1.f2), .int .i64 ((rd_T31 l0 x4_1).f1.f3)] 29 (0, 0)) (Sq.B BK142.out) hb); have n2_ := Aside0.mk (below_step (by repeat (first | (with_reducible first | exact HB.out | apply below_alloc | apply pw_below_drewN | apply below_drew1 | refine below_set ?_ (IsS65.ge HI140.out) | refine below_set ?_ GE142.out) | exact HB.out)) hb); clear HI140; clear BK142; clear HB; have HI140 := n0_; have BK142 := n1_; have HB := n2_; clear n0_ n1_ n2_; (try clear hb); (try clear hb2); (try clear hk); (try clear hi)) | (go_at_call 16; (with_reducible refine (rate_Table_All.calls g140 x141000_1 t144 t147 w _ ?side1 ?side2 A11.out).mono ?_); (case side1 => repeat (first | (with_reducible first | exact HI140.out | apply IsS65.alloc | apply IsS65.drewN | apply IsS65.drew | apply IsS65.set_0 | refine IsS65.far ?_ NB140_142.out _) | exact HI140.out)); (case side2 => repeat (first | (with_reducible first | exact HB.out | apply below_alloc | apply pw_below_drewN | apply below_drew1 | refine below_set ?_ (IsS65.ge HI140.out) | refine below_set ?_ GE142.out) | exact HB.out)); rintro e w20 ⟨v145, rfl, ho0, hi, hb, hk⟩; have HO146 := Aside0.mk (Kd.R_lower (Kd.R_newB ho0 (g := gb142) (o := .cells #[.int .i64 ((rd_T31 l0 x4_1).f1.f0), .int .i64 ((rd_T31 l0 x4_1).f1.f1), .int .i64 ((rd_T31 l0 x4_1).f1.f2), .int .i64 ((rd_T31 l0 x4_1).f1.f3)] 29 (0, 0)) (Sq.b BK142.out)) (below_size (by repeat (first | (with_reducible first | exact HB.out | apply below_alloc | apply pw_below_drewN | apply below_drew1 | refine below_set ?_ (IsS65.ge HI140.out) | refine below_set ?_ GE142.out) | exact HB.out)))); replace BK142 := Aside0.mk (KeepBut.blk hk (g' := gb142) (o := .cells #[.int .i64 ((rd_T31 l0 x4_1).f1.f0), .int .i64 ((rd_T31 l0 x4_1).f1.f1), .int .i64 ((rd_T31 l0 x4_1).f1.f2), .int .i64 ((rd_T31 l0 x4_1).f1.f3)] 29 (0, 0)) (Sq.b BK142.out) NB142_140.out (by simp)); replace HB := Aside0.mk (hb); replace HI140 := Aside0.mk (hi); (try clear hb); (try clear hb2); (try clear hk); (try clear hi); (try clear ho0); obtain ⟨Ao21, co21, eo21⟩ := Kd.R_slice HO146.out; subst eo21; obtain ⟨z22_0, z22_1, z22_2, z22_3⟩ := Sq.c4 BK142.out; obtain ⟨y22_0, y22_1, y22_2, y22_3⟩ := Sq.f4 BK142.out) | (go_at_call 9; (with_reducible refine (rate_Table_Add.calls g140 t147 ((rd_T31 l0 x4_1).f1.f0) ((rd_T31 l0 x4_1).f1.f1) ((rd_T31 l0 x4_1).f1.f2) ((rd_T31 l0 x4_1).f1.f3) t148 t149 w _ ?side1 ?side2 A12.out).mono ?_); (case side1 => repeat (first | (with_reducible first | exact HI140.out | apply IsS65.alloc | apply IsS65.drewN | apply IsS65.drew | apply IsS65.set_0 | refine IsS65.far ?_ NB140_142.out _) | exact HI140.out)); (case side2 => repeat (first | (with_reducible first | exact HB.out | apply below_alloc | apply pw_below_drewN | apply below_drew1 | refine below_set ?_ (IsS65.ge HI140.out) | refine below_set ?_ GE142.out) | exact HB.out)); rintro e w23 ⟨rfl, hi, hb, hk⟩; replace BK142 := Aside0.mk (KeepBut.blk hk (g' := gb142) (o := .cells #[.int .i64 ((rd_T31 l0 x4_1).f1.f0), .int .i64 ((rd_T31 l0 x4_1).f1.f1), .int .i64 ((rd_T31 l0 x4_1).f1.f2), .int .i64 ((rd_T31 l0 x4_1).f1.f3)] 29 (0, 0)) (Sq.b BK142.out) NB142_140.out (by simp)); replace HO146 := Aside0.mk (Kd.R_mono (Kd.R_keep (IsS65.apart (show IsS65 w _ g140 t147 from by repeat (first | (with_reducible first | exact HI140.out | apply IsS65.alloc | apply IsS65.drewN | apply IsS65.drew | apply IsS65.set_0 | refine IsS65.far ?_ NB140_142.out _) | exact HI140.out)) (Sq.rR HO146.out) (by decide)) hk (fun _ h => h.2)) (fun _ h => h.1)); replace HB := Aside0.mk (hb); replace HI140 := Aside0.mk (hi); (try clear hb); (try clear hb2); (try clear hk); (try clear hi)) | (go_at_call 8; (with_reducible refine (gimballaw27_num.calls t148 t150 _ A13.out).mono ?_); rintro e w' ⟨rfl, ⟨nd, rfl⟩⟩; (try first | exact ⟨rfl, _, World.drewN_drewN _ _ _⟩ | exact ⟨rfl, _, Eq.trans (World.drewN_drewN _ _ _) (congrArg (World.drewN _) (Nat.add_assoc _ _ _))⟩)) | (go_at_call 16; (with_reducible refine (rate_Table_All.calls g140 t149 t151 t154 w _ ?side1 ?side2 A15.out).mono ?_); (case side1 => repeat (first | (with_reducible first | exact HI140.out | apply IsS65.alloc | apply IsS65.drewN | apply IsS65.drew | apply IsS65.set_0 | refine IsS65.far ?_ NB140_142.out _) | exact HI140.out)); (case side2 => repeat (first | (with_reducible first | exact HB.out | apply below_alloc | apply pw_below_drewN | apply below_drew1 | refine below_set ?_ (IsS65.ge HI140.out) | refine below_set ?_ GE142.out) | exact HB.out)); rintro e w24 ⟨v152, rfl, ho0, hi, hb, hk⟩; have HO153 := Aside0.mk (Kd.R_lower (Kd.R_newB (Kd.R_new' ho0 (Kd.R_lt (Sq.rR HO146.out))) (g := gb142) (o := .cells #[.int .i64 ((rd_T31 l0 x4_1).f1.f0), .int .i64 ((rd_T31 l0 x4_1).f1.f1), .int .i64 ((rd_T31 l0 x4_1).f1.f2), .int .i64 ((rd_T31 l0 x4_1).f1.f3)] 29 (0, 0)) (Sq.b BK142.out)) (below_size (by repeat (first | (with_reducible first | exact HB.out | apply below_alloc | apply pw_below_drewN | apply below_drew1 | refine below_set ?_ (IsS65.ge HI140.out) | refine below_set ?_ GE142.out) | exact HB.out)))); replace BK142 := Aside0.mk (KeepBut.blk hk (g' := gb142) (o := .cells #[.int .i64 ((rd_T31 l0 x4_1).f1.f0), .int .i64 ((rd_T31 l0 x4_1).f1.f1), .int .i64 ((rd_T31 l0 x4_1).f1.f2), .int .i64 ((rd_T31 l0 x4_1).f1.f3)] 29 (0, 0)) (Sq.b BK142.out) NB142_140.out (by simp)); replace HO146 := Aside0.mk (Kd.R_mono (Kd.R_told (Kd.R_oldK (IsS65.apart (show IsS65 w _ g140 t149 from by repeat (first | (with_reducible first | exact HI140.out | apply IsS65.alloc | apply IsS65.drewN | apply IsS65.drew | apply IsS65.set_0 | refine IsS65.far ?_ NB140_142.out _) | exact HI140.out)) (Sq.rR HO146.out) (by decide)) hk) (Kd.R_base ho0)) (fun _ h_ => h_.1)); replace HB := Aside0.mk (hb); replace HI140 := Aside0.mk (hi); (try clear hb); (try clear hb2); (try clear hk); (try clear hi); (try clear ho0))))
          refine Cu.wp_loop (Cu.rep 2 Cu.f (Cu.rep 1 Cu.t (Cu.rep 5 Cu.f (Cu.rep 2 Cu.t (Cu.rep 36 Cu.f (Cu.rep 58 Cu.t (Cu.rep 78 Cu.f []))))))) 61 (fun kq us_ w' => ∃ (x8_3 : Int) (x9_3 : Int), (Cu.nth us_ 1) = .int .i64 x8_3 ∧ (Cu.nth us_ 2) = .int .i64 x9_3 ∧ Aside0 (gimballaw27_RateTables.l1 kq l0 x4_1 (t144.length : Int) t151 x8_3 x9_3 t154 ((rd_T31 l0 x4_1).f1.f0) ((rd_T31 l0 x4_1).f1.f1) ((rd_T31 l0 x4_1).f1.f2) ((rd_T31 l0 x4_1).f1.f3) = some r) ∧ Aside0 (kq ≤ kj3) ∧ Aside0 (Kd.R k29 29 w' w.heap.size (fun k_ => k_ ≠ gb142) v152 t151) ∧ Aside0 (w'.heap[gb142]? = some (.cells #[.int .i64 ((rd_T31 l0 x4_1).f1.f0), .int .i64 ((rd_T31 l0 x4_1).f1.f1), .int .i64 ((rd_T31 l0 x4_1).f1.f2), .int .i64 ((rd_T31 l0 x4_1).f1.f3)] 29 (0, 0))) ∧ Aside0 (IsS65 w w' g140 t154) ∧ Aside0 (Below w.heap.size w w')) kj3 ?_ (by kernel_rfl) (by kernel_rfl) ?_
          · try dsimp only [Cu.pick, Cu.rep, Cu.nth]
            exact ⟨(0), (0), Sq.e, Sq.e, H', ⟨Nat.le_refl _⟩, ⟨Sq.rR (Kd.R_mono HO153.out (fun _ hk => hk.2))⟩, ⟨Sq.b BK142.out⟩, ⟨by repeat (first | (with_reducible first | exact HI140.out | apply IsS65.alloc | apply IsS65.drewN | apply IsS65.drew | apply IsS65.set_0 | refine IsS65.far ?_ NB140_142.out _) | exact HI140.out)⟩, ⟨by repeat (first | (with_reducible first | exact HB.out | apply below_alloc | apply pw_below_drewN | apply below_drew1 | refine below_set ?_ (IsS65.ge HI140.out) | refine below_set ?_ GE142.out) | exact HB.out)⟩⟩
          ·
           intro gk wr u2 u8 u9 u46 u47 u48 u49 u50 u51 u52 u53 u54 u55 u56 u57 u58 u59 u60 u61 u62 u63 u64 u65 u66 u67 u68 u69 u70 u71 u72 u73 u74 u75 u76 u77 u78 u79 u80 u81 u82 u83 u84 u85 u86 u87 u88 u89 u90 u91 u92 u93 u94 u95 u96 u97 u98 u99 u100 u101 u102 u103
           try dsimp only [Cu.over, Cu.rep, Cu.nth]
           intro hrel _ _ _ _
           clear H'; (try clear c6); (try clear c7b0); (try clear c8b0); (try clear c10); (try clear c14b0); (try clear c14b1); (try clear z18_0 z18_1 z18_2 z18_3); (try clear z22_0 z22_1 z22_2 z22_3); (try clear y18_0 y18_1 y18_2 y18_3); (try clear y22_0 y22_1 y22_2 y22_3); (try clear hx141_0); (try clear hx141_1); (try clear hx141_2); (try clear hx141_3); (try clear hx141_4); (try clear hx141_5); (try clear p141); (try clear q141)
           obtain ⟨x8_3, x9_3, rfl, rfl, HA, HK3, HO_7, BK142, HI140, HB⟩ := hrel
           cases gk with
           | zero => exact absurd HA.out (by simp [gimballaw27_RateTables.l1])
           | succ k3 =>
            have H := HA.out
            clear HA
            simp only [gimballaw27_RateTables.l1] at H
            by_cases c25 : x9_3 < (t151.length : Int)
            ·rw [if_pos c25] at H
             have c25b0 : decide (x9_3 < (t151.length : Int)) = true := decide_eq_true c25
             clear c25
             by_cases c26 : 0 ≤ x9_3
             ·rw [if_pos c26] at H
              have c26b0 : decide (0 ≤ x9_3) = true := decide_eq_true c26
              clear c26
              by_cases c27 : (((rd_T29 t151 x9_3).f0) == ((rd_T31 l0 x4_1).f1.f0) && (((rd_T29 t151 x9_3).f1) == ((rd_T31 l0 x4_1).f1.f1) && (((rd_T29 t151 x9_3).f2) == ((rd_T31 l0 x4_1).f1.f2) && (((rd_T29 t151 x9_3).f3) == ((rd_T31 l0 x4_1).f1.f3))))) = true
              ·rw [if_pos c27] at H
               have c27b0 : (((rd_T29 t151 x9_3).f0) == ((rd_T31 l0 x4_1).f1.f0) && (((rd_T29 t151 x9_3).f1) == ((rd_T31 l0 x4_1).f1.f1) && (((rd_T29 t151 x9_3).f2) == ((rd_T31 l0 x4_1).f1.f2) && (((rd_T29 t151 x9_3).f3) == ((rd_T31 l0 x4_1).f1.f3))))) = true := c27
               (try (have c27b1 : decide (((rd_T29 t151 x9_3).f0) = ((rd_T31 l0 x4_1).f1.f0) && (((rd_T29 t151 x9_3).f1) == ((rd_T31 l0 x4_1).f1.f1) && (((rd_T29 t151 x9_3).f2) == ((rd_T31 l0 x4_1).f1.f2) && (((rd_T29 t151 x9_3).f3) == ((rd_T31 l0 x4_1).f1.f3))))) = true := by simpa using c27))
               (try (have c27b2 : (((rd_T29 t151 x9_3).f0) == ((rd_T31 l0 x4_1).f1.f0) && (((rd_T29 t151 x9_3).f1) == ((rd_T31 l0 x4_1).f1.f1) && (((rd_T29 t151 x9_3).f2) == ((rd_T31 l0 x4_1).f1.f2) && (((rd_T29 t151 x9_3).f3) == ((rd_T31 l0 x4_1).f1.f3))))) = true := by simpa using c27))
               clear c27
               by_cases c28 : x9_3 > 0
               ·rw [if_pos c28] at H
                have c28b0 : decide (0 < x9_3) = true := decide_eq_true c28
                clear c28
                obtain ⟨ji29, hji29⟩ : ∃ j_ : Int, (wrap64 (x9_3 - 1)) = j_ := ⟨_, rfl⟩
                replace H : (if 0 ≤ (ji29) then (if (ji29) < (t151.length : Int) then (if ((rd_T29 t151 (ji29)).f0) > ((rd_T29 t151 x9_3).f0) then (some false) else (if ((rd_T29 t151 (ji29)).f0) = ((rd_T29 t151 x9_3).f0) then (if ((rd_T29 t151 (ji29)).f1) ≥ ((rd_T29 t151 x9_3).f1) then (some false) else (gimballaw27_RateTables.l1 k3 l0 x4_1 (t144.length : Int) t151 (wrap64 (x8_3 + 1)) (wrap64 (x9_3 + 1)) t154 ((rd_T31 l0 x4_1).f1.f0) ((rd_T31 l0 x4_1).f1.f1) ((rd_T31 l0 x4_1).f1.f2) ((rd_T31 l0 x4_1).f1.f3))) else (gimballaw27_RateTables.l1 k3 l0 x4_1 (t144.length : Int) t151 (wrap64 (x8_3 + 1)) (wrap64 (x9_3 + 1)) t154 ((rd_T31 l0 x4_1).f1.f0) ((rd_T31 l0 x4_1).f1.f1) ((rd_T31 l0 x4_1).f1.f2) ((rd_T31 l0 x4_1).f1.f3)))) else (none)) else (none)) = some r := by first | (rw [hji29] at H; exact H) | (simp only [hji29] at H ⊢; exact H)
                have hji29w : (IntKind.i64.wrap (x9_3 - 1)) = ji29 := (i64_w _).trans hji29
                by_cases c30 : 0 ≤ (ji29)
                ·rw [if_pos c30] at H
                 have c30b0 : decide (0 ≤ (ji29)) = true := decide_eq_true c30
                 clear c30
                 by_cases c31 : (ji29) < (t151.length : Int)
                 ·rw [if_pos c31] at H
                  have c31b0 : decide ((ji29) < (t151.length : Int)) = true := decide_eq_true c31
                  clear c31
                  by_cases c32 : ((rd_T29 t151 (ji29)).f0) > ((rd_T29 t151 x9_3).f0)
                  ·rw [if_pos c32] at H
                   have c32b0 : decide (((rd_T29 t151 x9_3).f0) < ((rd_T29 t151 (ji29)).f0)) = true := decide_eq_true c32
                   clear c32
                   exact absurd ((Option.some.inj H).trans hrt_.out) (by simp)
                  ·rw [if_neg c32] at H
                   have c32b0 : decide (((rd_T29 t151 x9_3).f0) < ((rd_T29 t151 (ji29)).f0)) = false := decide_eq_false c32
                   clear c32
                   by_cases c33 : ((rd_T29 t151 (ji29)).f0) = ((rd_T29 t151 x9_3).f0)
                   ·rw [if_pos c33] at H
                    have c33b0 : (((rd_T29 t151 (ji29)).f0) == ((rd_T29 t151 x9_3).f0)) = true := beq_iff_eq.mpr c33
                    have c33b1 : (((rd_T29 t151 (ji29)).f0) != ((rd_T29 t151 x9_3).f0)) = false := bne_eq_false_iff_eq.mpr c33
                    clear c33
                    by_cases c34 : ((rd_T29 t151 (ji29)).f1) ≥ ((rd_T29 t151 x9_3).f1)
                    ·rw [if_pos c34] at H
                     have c34b0 : decide (((rd_T29 t151 x9_3).f1) ≤ ((rd_T29 t151 (ji29)).f1)) = true := decide_eq_true c34
                     clear c34
                     exact absurd ((Option.some.inj H).trans hrt_.out) (by simp)
                    ·rw [if_neg c34] at H
                     have c34b0 : decide (((rd_T29 t151 x9_3).f1) ≤ ((rd_T29 t151 (ji29)).f1)) = false := decide_eq_false c34
                     clear c34
                     have H' := Aside0.mk H
                     clear H
                     obtain ⟨Ao35, co35, eo35⟩ := Kd.R_slice HO_7.out
                     subst eo35
                     have p155 : 0 ≤ (x9_3 : Int) := of_decide_eq_true (by first | (with_reducible assumption) | assumption)
                     have q155 : x9_3 < (t151.length : Int) := of_decide_eq_true (by first | (with_reducible assumption) | assumption)
                     obtain ⟨ad155, e155, hx155_0, hx155_1, hx155_2, hx155_3⟩ := at_T29 (Kd.R_reads' HO_7.out).2.2 x9_3 p155 q155
                     cases e155
                     replace p155 := eq_true p155
                     replace q155 := eq_true q155
                     have b36 := NB142_140.out; have d36 := NB140_142.out
                     obtain ⟨z37_0, z37_1, z37_2, z37_3⟩ := Sq.c4 BK142.out
                     obtain ⟨y37_0, y37_1, y37_2, y37_3⟩ := Sq.f4 BK142.out
                     have p156 : 0 ≤ ((ji29) : Int) := of_decide_eq_true (by first | (with_reducible assumption) | assumption)
                     have q156 : (ji29) < (t151.length : Int) := of_decide_eq_true (by first | (with_reducible assumption) | assumption)
                     obtain ⟨ad156, e156, hx156_0, hx156_1, hx156_2, hx156_3⟩ := at_T29 (Kd.R_reads' HO_7.out).2.2 (ji29) p156 q156
                     obtain rfl : ad155 = ad156 := (by injection e156)
                     replace p156 := eq_true p156
                     replace q156 := eq_true q156
                     have p157 : 0 ≤ (x9_3 : Int) := of_decide_eq_true (by first | (with_reducible assumption) | assumption)
                     have q157 : x9_3 < (t151.length : Int) := of_decide_eq_true (by first | (with_reducible assumption) | assumption)
                     obtain ⟨ad157, e157, hx157_0, hx157_1, hx157_2, hx157_3⟩ := at_T29 (Kd.R_reads' HO_7.out).2.2 x9_3 p157 q157
                     obtain rfl : ad155 = ad157 := (by injection e157)
                     replace p157 := eq_true p157
                     replace q157 := eq_true q157
                     have p158 : 0 ≤ ((ji29) : Int) := of_decide_eq_true (by first | (with_reducible assumption) | assumption)
                     have q158 : (ji29) < (t151.length : Int) := of_decide_eq_true (by first | (with_reducible assumption) | assumption)
                     obtain ⟨ad158, e158, hx158_0, hx158_1, hx158_2, hx158_3⟩ := at_T29 (Kd.R_reads' HO_7.out).2.2 (ji29) p158 q158
                     obtain rfl : ad155 = ad158 := (by injection e158)
                     replace p158 := eq_true p158
                     replace q158 := eq_true q158
                     have p159 : 0 ≤ (x9_3 : Int) := of_decide_eq_true (by first | (with_reducible assumption) | assumption)
                     have q159 : x9_3 < (t151.length : Int) := of_decide_eq_true (by first | (with_reducible assumption) | assumption)
                     obtain ⟨ad159, e159, hx159_0, hx159_1, hx159_2, hx159_3⟩ := at_T29 (Kd.R_reads' HO_7.out).2.2 x9_3 p159 q159
                     obtain rfl : ad155 = ad159 := (by injection e159)
                     replace p159 := eq_true p159
                     replace q159 := eq_true q159
                     have p160 : 0 ≤ ((ji29) : Int) := of_decide_eq_true (by first | (with_reducible assumption) | assumption)
                     have q160 : (ji29) < (t151.length : Int) := of_decide_eq_true (by first | (with_reducible assumption) | assumption)
                     obtain ⟨ad160, e160, hx160_0, hx160_1, hx160_2, hx160_3⟩ := at_T29 (Kd.R_reads' HO_7.out).2.2 (ji29) p160 q160
                     obtain rfl : ad155 = ad160 := (by injection e160)
                     replace p160 := eq_true p160
                     replace q160 := eq_true q160
                     have p161 : 0 ≤ (x9_3 : Int) := of_decide_eq_true (by first | (with_reducible assumption) | assumption)
                     have q161 : x9_3 < (t151.length : Int) := of_decide_eq_true (by first | (with_reducible assumption) | assumption)
                     obtain ⟨ad161, e161, hx161_0, hx161_1, hx161_2, hx161_3⟩ := at_T29 (Kd.R_reads' HO_7.out).2.2 x9_3 p161 q161
                     obtain rfl : ad155 = ad161 := (by injection e161)
                     replace p161 := eq_true p161
                     replace q161 := eq_true q161
                     go_wp2
                     repeat (go_quiet (fail); try go_wp2)
                     refine Cu.handed k3 (by have := HK1.out; have := HJ3.out; have := HK3.out; omega) (by assumption) ?_ (by kernel_rfl) (by kernel_rfl)
                     try dsimp only [Cu.pick, Cu.rep, Cu.nth]
                     exact ⟨(wrap64 (x8_3 + 1)), (wrap64 (x9_3 + 1)), Sq.e, Sq.e, H', ⟨by have := HK1.out; have := HJ3.out; have := HK3.out; omega⟩, ⟨Sq.rR HO_7.out⟩, ⟨Sq.b BK142.out⟩, ⟨by repeat (first | (with_reducible first | exact HI140.out | apply IsS65.alloc | apply IsS65.drewN | apply IsS65.drew | apply IsS65.set_0 | refine IsS65.far ?_ NB140_142.out _) | exact HI140.out)⟩, ⟨by repeat (first | (with_reducible first | exact HB.out | apply below_alloc | apply pw_below_drewN | apply below_drew1 | refine below_set ?_ (IsS65.ge HI140.out) | refine below_set ?_ GE142.out) | exact HB.out)⟩⟩
                   ·rw [if_neg c33] at H
                    have c33b0 : (((rd_T29 t151 (ji29)).f0) == ((rd_T29 t151 x9_3).f0)) = false := beq_eq_false_iff_ne.mpr c33
                    have c33b1 : (((rd_T29 t151 (ji29)).f0) != ((rd_T29 t151 x9_3).f0)) = true := bne_iff_ne.mpr c33
                    have H' := Aside0.mk H
                    clear H
                    obtain ⟨Ao38, co38, eo38⟩ := Kd.R_slice HO_7.out
                    subst eo38
                    have p155 : 0 ≤ (x9_3 : Int) := of_decide_eq_true (by first | (with_reducible assumption) | assumption)
                    have q155 : x9_3 < (t151.length : Int) := of_decide_eq_true (by first | (with_reducible assumption) | assumption)
                    obtain ⟨ad155, e155, hx155_0, hx155_1, hx155_2, hx155_3⟩ := at_T29 (Kd.R_reads' HO_7.out).2.2 x9_3 p155 q155
                    cases e155
                    replace p155 := eq_true p155
                    replace q155 := eq_true q155
                    have b39 := NB142_140.out; have d39 := NB140_142.out
                    obtain ⟨z40_0, z40_1, z40_2, z40_3⟩ := Sq.c4 BK142.out
                    obtain ⟨y40_0, y40_1, y40_2, y40_3⟩ := Sq.f4 BK142.out
                    have p156 : 0 ≤ ((ji29) : Int) := of_decide_eq_true (by first | (with_reducible assumption) | assumption)
                    have q156 : (ji29) < (t151.length : Int) := of_decide_eq_true (by first | (with_reducible assumption) | assumption)
                    obtain ⟨ad156, e156, hx156_0, hx156_1, hx156_2, hx156_3⟩ := at_T29 (Kd.R_reads' HO_7.out).2.2 (ji29) p156 q156
                    obtain rfl : ad155 = ad156 := (by injection e156)
                    replace p156 := eq_true p156
                    replace q156 := eq_true q156
                    have p157 : 0 ≤ (x9_3 : Int) := of_decide_eq_true (by first | (with_reducible assumption) | assumption)
                    have q157 : x9_3 < (t151.length : Int) := of_decide_eq_true (by first | (with_reducible assumption) | assumption)
                    obtain ⟨ad157, e157, hx157_0, hx157_1, hx157_2, hx157_3⟩ := at_T29 (Kd.R_reads' HO_7.out).2.2 x9_3 p157 q157
                    obtain rfl : ad155 = ad157 := (by injection e157)
                    replace p157 := eq_true p157
                    replace q157 := eq_true q157
                    have p158 : 0 ≤ ((ji29) : Int) := of_decide_eq_true (by first | (with_reducible assumption) | assumption)
                    have q158 : (ji29) < (t151.length : Int) := of_decide_eq_true (by first | (with_reducible assumption) | assumption)
                    obtain ⟨ad158, e158, hx158_0, hx158_1, hx158_2, hx158_3⟩ := at_T29 (Kd.R_reads' HO_7.out).2.2 (ji29) p158 q158
                    obtain rfl : ad155 = ad158 := (by injection e158)
                    replace p158 := eq_true p158
                    replace q158 := eq_true q158
                    have p159 : 0 ≤ (x9_3 : Int) := of_decide_eq_true (by first | (with_reducible assumption) | assumption)
                    have q159 : x9_3 < (t151.length : Int) := of_decide_eq_true (by first | (with_reducible assumption) | assumption)
                    obtain ⟨ad159, e159, hx159_0, hx159_1, hx159_2, hx159_3⟩ := at_T29 (Kd.R_reads' HO_7.out).2.2 x9_3 p159 q159
                    obtain rfl : ad155 = ad159 := (by injection e159)
                    replace p159 := eq_true p159
                    replace q159 := eq_true q159
                    go_wp2
                    repeat (go_quiet (fail); try go_wp2)
                    refine Cu.handed k3 (by have := HK1.out; have := HJ3.out; have := HK3.out; omega) (by assumption) ?_ (by kernel_rfl) (by kernel_rfl)
                    try dsimp only [Cu.pick, Cu.rep, Cu.nth]
                    exact ⟨(wrap64 (x8_3 + 1)), (wrap64 (x9_3 + 1)), Sq.e, Sq.e, H', ⟨by have := HK1.out; have := HJ3.out; have := HK3.out; omega⟩, ⟨Sq.rR HO_7.out⟩, ⟨Sq.b BK142.out⟩, ⟨by repeat (first | (with_reducible first | exact HI140.out | apply IsS65.alloc | apply IsS65.drewN | apply IsS65.drew | apply IsS65.set_0 | refine IsS65.far ?_ NB140_142.out _) | exact HI140.out)⟩, ⟨by repeat (first | (with_reducible first | exact HB.out | apply below_alloc | apply pw_below_drewN | apply below_drew1 | refine below_set ?_ (IsS65.ge HI140.out) | refine below_set ?_ GE142.out) | exact HB.out)⟩⟩
                 ·rw [if_neg c31] at H
                  exact absurd H (by simp)
                ·rw [if_neg c30] at H
                 exact absurd H (by simp)
               ·rw [if_neg c28] at H
                have c28b0 : decide (0 < x9_3) = false := decide_eq_false c28
                clear c28
                have H' := Aside0.mk H
                clear H
                obtain ⟨Ao41, co41, eo41⟩ := Kd.R_slice HO_7.out
                subst eo41
                have p155 : 0 ≤ (x9_3 : Int) := of_decide_eq_true (by first | (with_reducible assumption) | assumption)
                have q155 : x9_3 < (t151.length : Int) := of_decide_eq_true (by first | (with_reducible assumption) | assumption)
                obtain ⟨ad155, e155, hx155_0, hx155_1, hx155_2, hx155_3⟩ := at_T29 (Kd.R_reads' HO_7.out).2.2 x9_3 p155 q155
                cases e155
                replace p155 := eq_true p155
                replace q155 := eq_true q155
                have b42 := NB142_140.out; have d42 := NB140_142.out
                obtain ⟨z43_0, z43_1, z43_2, z43_3⟩ := Sq.c4 BK142.out
                obtain ⟨y43_0, y43_1, y43_2, y43_3⟩ := Sq.f4 BK142.out
                go_wp2
                repeat (go_quiet (fail); try go_wp2)
                refine Cu.handed k3 (by have := HK1.out; have := HJ3.out; have := HK3.out; omega) (by assumption) ?_ (by kernel_rfl) (by kernel_rfl)
                try dsimp only [Cu.pick, Cu.rep, Cu.nth]
                exact ⟨(wrap64 (x8_3 + 1)), (wrap64 (x9_3 + 1)), Sq.e, Sq.e, H', ⟨by have := HK1.out; have := HJ3.out; have := HK3.out; omega⟩, ⟨Sq.rR HO_7.out⟩, ⟨Sq.b BK142.out⟩, ⟨by repeat (first | (with_reducible first | exact HI140.out | apply IsS65.alloc | apply IsS65.drewN | apply IsS65.drew | apply IsS65.set_0 | refine IsS65.far ?_ NB140_142.out _) | exact HI140.out)⟩, ⟨by repeat (first | (with_reducible first | exact HB.out | apply below_alloc | apply pw_below_drewN | apply below_drew1 | refine below_set ?_ (IsS65.ge HI140.out) | refine below_set ?_ GE142.out) | exact HB.out)⟩⟩
              ·rw [if_neg c27] at H
               have c27b0 : (((rd_T29 t151 x9_3).f0) == ((rd_T31 l0 x4_1).f1.f0) && (((rd_T29 t151 x9_3).f1) == ((rd_T31 l0 x4_1).f1.f1) && (((rd_T29 t151 x9_3).f2) == ((rd_T31 l0 x4_1).f1.f2) && (((rd_T29 t151 x9_3).f3) == ((rd_T31 l0 x4_1).f1.f3))))) = false := by simpa using c27
               (try (have c27b1 : decide (((rd_T29 t151 x9_3).f0) = ((rd_T31 l0 x4_1).f1.f0) && (((rd_T29 t151 x9_3).f1) == ((rd_T31 l0 x4_1).f1.f1) && (((rd_T29 t151 x9_3).f2) == ((rd_T31 l0 x4_1).f1.f2) && (((rd_T29 t151 x9_3).f3) == ((rd_T31 l0 x4_1).f1.f3))))) = false := by simpa using c27))
               (try (have c27b2 : (((rd_T29 t151 x9_3).f0) == ((rd_T31 l0 x4_1).f1.f0) && (((rd_T29 t151 x9_3).f1) == ((rd_T31 l0 x4_1).f1.f1) && (((rd_T29 t151 x9_3).f2) == ((rd_T31 l0 x4_1).f1.f2) && (((rd_T29 t151 x9_3).f3) == ((rd_T31 l0 x4_1).f1.f3))))) = false := by simpa using c27))
               (try (have c27b3 : ¬ (((rd_T29 t151 x9_3).f0) = ((rd_T31 l0 x4_1).f1.f0) && (((rd_T29 t151 x9_3).f1) == ((rd_T31 l0 x4_1).f1.f1) && (((rd_T29 t151 x9_3).f2) == ((rd_T31 l0 x4_1).f1.f2) && (((rd_T29 t151 x9_3).f3) == ((rd_T31 l0 x4_1).f1.f3))))) := by simpa using c27))
               clear c27
               by_cases c44 : x9_3 > 0
               ·rw [if_pos c44] at H
                have c44b0 : decide (0 < x9_3) = true := decide_eq_true c44
                clear c44
                obtain ⟨ji45, hji45⟩ : ∃ j_ : Int, (wrap64 (x9_3 - 1)) = j_ := ⟨_, rfl⟩
                replace H : (if 0 ≤ (ji45) then (if (ji45) < (t151.length : Int) then (if ((rd_T29 t151 (ji45)).f0) > ((rd_T29 t151 x9_3).f0) then (some false) else (if ((rd_T29 t151 (ji45)).f0) = ((rd_T29 t151 x9_3).f0) then (if ((rd_T29 t151 (ji45)).f1) ≥ ((rd_T29 t151 x9_3).f1) then (some false) else (gimballaw27_RateTables.l1 k3 l0 x4_1 (t144.length : Int) t151 x8_3 (wrap64 (x9_3 + 1)) t154 ((rd_T31 l0 x4_1).f1.f0) ((rd_T31 l0 x4_1).f1.f1) ((rd_T31 l0 x4_1).f1.f2) ((rd_T31 l0 x4_1).f1.f3))) else (gimballaw27_RateTables.l1 k3 l0 x4_1 (t144.length : Int) t151 x8_3 (wrap64 (x9_3 + 1)) t154 ((rd_T31 l0 x4_1).f1.f0) ((rd_T31 l0 x4_1).f1.f1) ((rd_T31 l0 x4_1).f1.f2) ((rd_T31 l0 x4_1).f1.f3)))) else (none)) else (none)) = some r := by first | (rw [hji45] at H; exact H) | (simp only [hji45] at H ⊢; exact H)
                have hji45w : (IntKind.i64.wrap (x9_3 - 1)) = ji45 := (i64_w _).trans hji45
                by_cases c46 : 0 ≤ (ji45)
                ·rw [if_pos c46] at H
                 have c46b0 : decide (0 ≤ (ji45)) = true := decide_eq_true c46
                 clear c46
                 by_cases c47 : (ji45) < (t151.length : Int)
                 ·rw [if_pos c47] at H
                  have c47b0 : decide ((ji45) < (t151.length : Int)) = true := decide_eq_true c47
                  clear c47
                  by_cases c48 : ((rd_T29 t151 (ji45)).f0) > ((rd_T29 t151 x9_3).f0)
                  ·rw [if_pos c48] at H
                   have c48b0 : decide (((rd_T29 t151 x9_3).f0) < ((rd_T29 t151 (ji45)).f0)) = true := decide_eq_true c48
                   clear c48
                   exact absurd ((Option.some.inj H).trans hrt_.out) (by simp)
                  ·rw [if_neg c48] at H
                   have c48b0 : decide (((rd_T29 t151 x9_3).f0) < ((rd_T29 t151 (ji45)).f0)) = false := decide_eq_false c48
                   clear c48
                   by_cases c49 : ((rd_T29 t151 (ji45)).f0) = ((rd_T29 t151 x9_3).f0)
                   ·rw [if_pos c49] at H
                    have c49b0 : (((rd_T29 t151 (ji45)).f0) == ((rd_T29 t151 x9_3).f0)) = true := beq_iff_eq.mpr c49
                    have c49b1 : (((rd_T29 t151 (ji45)).f0) != ((rd_T29 t151 x9_3).f0)) = false := bne_eq_false_iff_eq.mpr c49
                    clear c49
                    by_cases c50 : ((rd_T29 t151 (ji45)).f1) ≥ ((rd_T29 t151 x9_3).f1)
                    ·rw [if_pos c50] at H
                     have c50b0 : decide (((rd_T29 t151 x9_3).f1) ≤ ((rd_T29 t151 (ji45)).f1)) = true := decide_eq_true c50
                     clear c50
                     exact absurd ((Option.some.inj H).trans hrt_.out) (by simp)
                    ·rw [if_neg c50] at H
                     have c50b0 : decide (((rd_T29 t151 x9_3).f1) ≤ ((rd_T29 t151 (ji45)).f1)) = false := decide_eq_false c50
                     clear c50
                     have H' := Aside0.mk H
                     clear H
                     obtain ⟨Ao51, co51, eo51⟩ := Kd.R_slice HO_7.out
                     subst eo51
                     have p155 : 0 ≤ (x9_3 : Int) := of_decide_eq_true (by first | (with_reducible assumption) | assumption)
                     have q155 : x9_3 < (t151.length : Int) := of_decide_eq_true (by first | (with_reducible assumption) | assumption)
                     obtain ⟨ad155, e155, hx155_0, hx155_1, hx155_2, hx155_3⟩ := at_T29 (Kd.R_reads' HO_7.out).2.2 x9_3 p155 q155
                     cases e155
                     replace p155 := eq_true p155
                     replace q155 := eq_true q155
                     have b52 := NB142_140.out; have d52 := NB140_142.out
                     obtain ⟨z53_0, z53_1, z53_2, z53_3⟩ := Sq.c4 BK142.out
                     obtain ⟨y53_0, y53_1, y53_2, y53_3⟩ := Sq.f4 BK142.out
                     have p162 : 0 ≤ ((ji45) : Int) := of_decide_eq_true (by first | (with_reducible assumption) | assumption)
                     have q162 : (ji45) < (t151.length : Int) := of_decide_eq_true (by first | (with_reducible assumption) | assumption)
                     obtain ⟨ad162, e162, hx162_0, hx162_1, hx162_2, hx162_3⟩ := at_T29 (Kd.R_reads' HO_7.out).2.2 (ji45) p162 q162
                     obtain rfl : ad155 = ad162 := (by injection e162)
                     replace p162 := eq_true p162
                     replace q162 := eq_true q162
                     have p163 : 0 ≤ (x9_3 : Int) := of_decide_eq_true (by first | (with_reducible assumption) | assumption)
                     have q163 : x9_3 < (t151.length : Int) := of_decide_eq_true (by first | (with_reducible assumption) | assumption)
                     obtain ⟨ad163, e163, hx163_0, hx163_1, hx163_2, hx163_3⟩ := at_T29 (Kd.R_reads' HO_7.out).2.2 x9_3 p163 q163
                     obtain rfl : ad155 = ad163 := (by injection e163)
                     replace p163 := eq_true p163
                     replace q163 := eq_true q163
                     have p164 : 0 ≤ ((ji45) : Int) := of_decide_eq_true (by first | (with_reducible assumption) | assumption)
                     have q164 : (ji45) < (t151.length : Int) := of_decide_eq_true (by first | (with_reducible assumption) | assumption)
                     obtain ⟨ad164, e164, hx164_0, hx164_1, hx164_2, hx164_3⟩ := at_T29 (Kd.R_reads' HO_7.out).2.2 (ji45) p164 q164
                     obtain rfl : ad155 = ad164 := (by injection e164)
                     replace p164 := eq_true p164
                     replace q164 := eq_true q164
                     have p165 : 0 ≤ (x9_3 : Int) := of_decide_eq_true (by first | (with_reducible assumption) | assumption)
                     have q165 : x9_3 < (t151.length : Int) := of_decide_eq_true (by first | (with_reducible assumption) | assumption)
                     obtain ⟨ad165, e165, hx165_0, hx165_1, hx165_2, hx165_3⟩ := at_T29 (Kd.R_reads' HO_7.out).2.2 x9_3 p165 q165
                     obtain rfl : ad155 = ad165 := (by injection e165)
                     replace p165 := eq_true p165
                     replace q165 := eq_true q165
                     have p166 : 0 ≤ ((ji45) : Int) := of_decide_eq_true (by first | (with_reducible assumption) | assumption)
                     have q166 : (ji45) < (t151.length : Int) := of_decide_eq_true (by first | (with_reducible assumption) | assumption)
                     obtain ⟨ad166, e166, hx166_0, hx166_1, hx166_2, hx166_3⟩ := at_T29 (Kd.R_reads' HO_7.out).2.2 (ji45) p166 q166
                     obtain rfl : ad155 = ad166 := (by injection e166)
                     replace p166 := eq_true p166
                     replace q166 := eq_true q166
                     have p167 : 0 ≤ (x9_3 : Int) := of_decide_eq_true (by first | (with_reducible assumption) | assumption)
                     have q167 : x9_3 < (t151.length : Int) := of_decide_eq_true (by first | (with_reducible assumption) | assumption)
                     obtain ⟨ad167, e167, hx167_0, hx167_1, hx167_2, hx167_3⟩ := at_T29 (Kd.R_reads' HO_7.out).2.2 x9_3 p167 q167
                     obtain rfl : ad155 = ad167 := (by injection e167)
                     replace p167 := eq_true p167
                     replace q167 := eq_true q167
                     go_wp2
                     repeat (go_quiet (fail); try go_wp2)
                     refine Cu.handed k3 (by have := HK1.out; have := HJ3.out; have := HK3.out; omega) (by assumption) ?_ (by kernel_rfl) (by kernel_rfl)
                     try dsimp only [Cu.pick, Cu.rep, Cu.nth]
                     exact ⟨(x8_3), (wrap64 (x9_3 + 1)), Sq.e, Sq.e, H', ⟨by have := HK1.out; have := HJ3.out; have := HK3.out; omega⟩, ⟨Sq.rR HO_7.out⟩, ⟨Sq.b BK142.out⟩, ⟨by repeat (first | (with_reducible first | exact HI140.out | apply IsS65.alloc | apply IsS65.drewN | apply IsS65.drew | apply IsS65.set_0 | refine IsS65.far ?_ NB140_142.out _) | exact HI140.out)⟩, ⟨by repeat (first | (with_reducible first | exact HB.out | apply below_alloc | apply pw_below_drewN | apply below_drew1 | refine below_set ?_ (IsS65.ge HI140.out) | refine below_set ?_ GE142.out) | exact HB.out)⟩⟩
                   ·rw [if_neg c49] at H
                    have c49b0 : (((rd_T29 t151 (ji45)).f0) == ((rd_T29 t151 x9_3).f0)) = false := beq_eq_false_iff_ne.mpr c49
                    have c49b1 : (((rd_T29 t151 (ji45)).f0) != ((rd_T29 t151 x9_3).f0)) = true := bne_iff_ne.mpr c49
                    have H' := Aside0.mk H
                    clear H
                    obtain ⟨Ao54, co54, eo54⟩ := Kd.R_slice HO_7.out
                    subst eo54
                    have p155 : 0 ≤ (x9_3 : Int) := of_decide_eq_true (by first | (with_reducible assumption) | assumption)
                    have q155 : x9_3 < (t151.length : Int) := of_decide_eq_true (by first | (with_reducible assumption) | assumption)
                    obtain ⟨ad155, e155, hx155_0, hx155_1, hx155_2, hx155_3⟩ := at_T29 (Kd.R_reads' HO_7.out).2.2 x9_3 p155 q155
                    cases e155
                    replace p155 := eq_true p155
                    replace q155 := eq_true q155
                    have b55 := NB142_140.out; have d55 := NB140_142.out
                    obtain ⟨z56_0, z56_1, z56_2, z56_3⟩ := Sq.c4 BK142.out
                    obtain ⟨y56_0, y56_1, y56_2, y56_3⟩ := Sq.f4 BK142.out
                    have p162 : 0 ≤ ((ji45) : Int) := of_decide_eq_true (by first | (with_reducible assumption) | assumption)
                    have q162 : (ji45) < (t151.length : Int) := of_decide_eq_true (by first | (with_reducible assumption) | assumption)
                    obtain ⟨ad162, e162, hx162_0, hx162_1, hx162_2, hx162_3⟩ := at_T29 (Kd.R_reads' HO_7.out).2.2 (ji45) p162 q162
                    obtain rfl : ad155 = ad162 := (by injection e162)
                    replace p162 := eq_true p162
                    replace q162 := eq_true q162
                    have p163 : 0 ≤ (x9_3 : Int) := of_decide_eq_true (by first | (with_reducible assumption) | assumption)
                    have q163 : x9_3 < (t151.length : Int) := of_decide_eq_true (by first | (with_reducible assumption) | assumption)
                    obtain ⟨ad163, e163, hx163_0, hx163_1, hx163_2, hx163_3⟩ := at_T29 (Kd.R_reads' HO_7.out).2.2 x9_3 p163 q163
                    obtain rfl : ad155 = ad163 := (by injection e163)
                    replace p163 := eq_true p163
                    replace q163 := eq_true q163
                    have p164 : 0 ≤ ((ji45) : Int) := of_decide_eq_true (by first | (with_reducible assumption) | assumption)
                    have q164 : (ji45) < (t151.length : Int) := of_decide_eq_true (by first | (with_reducible assumption) | assumption)
                    obtain ⟨ad164, e164, hx164_0, hx164_1, hx164_2, hx164_3⟩ := at_T29 (Kd.R_reads' HO_7.out).2.2 (ji45) p164 q164
                    obtain rfl : ad155 = ad164 := (by injection e164)
                    replace p164 := eq_true p164
                    replace q164 := eq_true q164
                    have p165 : 0 ≤ (x9_3 : Int) := of_decide_eq_true (by first | (with_reducible assumption) | assumption)
                    have q165 : x9_3 < (t151.length : Int) := of_decide_eq_true (by first | (with_reducible assumption) | assumption)
                    obtain ⟨ad165, e165, hx165_0, hx165_1, hx165_2, hx165_3⟩ := at_T29 (Kd.R_reads' HO_7.out).2.2 x9_3 p165 q165
                    obtain rfl : ad155 = ad165 := (by injection e165)
                    replace p165 := eq_true p165
                    replace q165 := eq_true q165
                    go_wp2
                    repeat (go_quiet (fail); try go_wp2)
                    refine Cu.handed k3 (by have := HK1.out; have := HJ3.out; have := HK3.out; omega) (by assumption) ?_ (by kernel_rfl) (by kernel_rfl)
                    try dsimp only [Cu.pick, Cu.rep, Cu.nth]
                    exact ⟨(x8_3), (wrap64 (x9_3 + 1)), Sq.e, Sq.e, H', ⟨by have := HK1.out; have := HJ3.out; have := HK3.out; omega⟩, ⟨Sq.rR HO_7.out⟩, ⟨Sq.b BK142.out⟩, ⟨by repeat (first | (with_reducible first | exact HI140.out | apply IsS65.alloc | apply IsS65.drewN | apply IsS65.drew | apply IsS65.set_0 | refine IsS65.far ?_ NB140_142.out _) | exact HI140.out)⟩, ⟨by repeat (first | (with_reducible first | exact HB.out | apply below_alloc | apply pw_below_drewN | apply below_drew1 | refine below_set ?_ (IsS65.ge HI140.out) | refine below_set ?_ GE142.out) | exact HB.out)⟩⟩
                 ·rw [if_neg c47] at H
                  exact absurd H (by simp)
                ·rw [if_neg c46] at H
                 exact absurd H (by simp)
               ·rw [if_neg c44] at H
                have c44b0 : decide (0 < x9_3) = false := decide_eq_false c44
                clear c44
                have H' := Aside0.mk H
                clear H
                obtain ⟨Ao57, co57, eo57⟩ := Kd.R_slice HO_7.out
                subst eo57
                have p155 : 0 ≤ (x9_3 : Int) := of_decide_eq_true (by first | (with_reducible assumption) | assumption)
                have q155 : x9_3 < (t151.length : Int) := of_decide_eq_true (by first | (with_reducible assumption) | assumption)
                obtain ⟨ad155, e155, hx155_0, hx155_1, hx155_2, hx155_3⟩ := at_T29 (Kd.R_reads' HO_7.out).2.2 x9_3 p155 q155
                cases e155
                replace p155 := eq_true p155
                replace q155 := eq_true q155
                have b58 := NB142_140.out; have d58 := NB140_142.out
                obtain ⟨z59_0, z59_1, z59_2, z59_3⟩ := Sq.c4 BK142.out
                obtain ⟨y59_0, y59_1, y59_2, y59_3⟩ := Sq.f4 BK142.out
                go_wp2
                repeat (go_quiet (fail); try go_wp2)
                refine Cu.handed k3 (by have := HK1.out; have := HJ3.out; have := HK3.out; omega) (by assumption) ?_ (by kernel_rfl) (by kernel_rfl)
                try dsimp only [Cu.pick, Cu.rep, Cu.nth]
                exact ⟨(x8_3), (wrap64 (x9_3 + 1)), Sq.e, Sq.e, H', ⟨by have := HK1.out; have := HJ3.out; have := HK3.out; omega⟩, ⟨Sq.rR HO_7.out⟩, ⟨Sq.b BK142.out⟩, ⟨by repeat (first | (with_reducible first | exact HI140.out | apply IsS65.alloc | apply IsS65.drewN | apply IsS65.drew | apply IsS65.set_0 | refine IsS65.far ?_ NB140_142.out _) | exact HI140.out)⟩, ⟨by repeat (first | (with_reducible first | exact HB.out | apply below_alloc | apply pw_below_drewN | apply below_drew1 | refine below_set ?_ (IsS65.ge HI140.out) | refine below_set ?_ GE142.out) | exact HB.out)⟩⟩
             ·rw [if_neg c26] at H
              exact absurd H (by simp)
            ·rw [if_neg c25] at H
             have c25b0 : decide (x9_3 < (t151.length : Int)) = false := decide_eq_false c25
             clear c25
             have HC60 := Aside0.mk H
             clear H
             obtain ⟨Ao61, co61, eo61⟩ := Kd.R_slice HO_7.out
             subst eo61
             go_upto_region 21 with (fail)
             repeat (go_quiet (fail); go_upto_region 21 with (fail))
             refine Cu.wp_cut (Cu.rep 18 Cu.f (Cu.rep 137 Cu.t (Cu.rep 27 Cu.f []))) 137 (fun us_ wc => ∃ (kq : Nat) (x118_59 : Bool), (Cu.nth us_ 100) = .bool x118_59 ∧ Aside0 (gimballaw27_RateTables.j3 kq l0 x4_1 t151 x118_59 t154 ((rd_T31 l0 x4_1).f1.f0) ((rd_T31 l0 x4_1).f1.f1) ((rd_T31 l0 x4_1).f1.f2) ((rd_T31 l0 x4_1).f1.f3) = some r) ∧ Aside0 (kq ≤ k3) ∧ Aside0 (Kd.R k29 29 wc w.heap.size (fun k_ => k_ ≠ gb142) (.slice Ao61 t151.length co61) t151) ∧ Aside0 (wc.heap[gb142]? = some (.cells #[.int .i64 ((rd_T31 l0 x4_1).f1.f0), .int .i64 ((rd_T31 l0 x4_1).f1.f1), .int .i64 ((rd_T31 l0 x4_1).f1.f2), .int .i64 ((rd_T31 l0 x4_1).f1.f3)] 29 (0, 0))) ∧ Aside0 (IsS65 w wc g140 t154) ∧ Aside0 (Below w.heap.size w wc)) ?_ ?_
             ·
              intro _ _ _ _
              have H := HC60.out
              clear HC60
              by_cases c62 : x8_3 = 1
              ·rw [if_pos c62] at H
               have c62b0 : (x8_3 == 1) = true := beq_iff_eq.mpr c62
               have c62b1 : (x8_3 != 1) = false := bne_eq_false_iff_eq.mpr c62
               clear c62
               (first | rw [c62b0] | (simp only [i64_w, i32_w]; rw [c62b0]) | skip)
               by_cases c63 : (t151.length : Int) = (t144.length : Int)
               ·rw [if_pos c63] at H
                have c63b0 : ((t151.length : Int) == (t144.length : Int)) = true := beq_iff_eq.mpr c63
                have c63b1 : ((t151.length : Int) != (t144.length : Int)) = false := bne_eq_false_iff_eq.mpr c63
                have c63b2 : (t151.length == t144.length) = true := by first | simpa using c63 | (simp at c63 ⊢; omega)
                clear c63
                have H' := Aside0.mk H
                clear H
                go_wp2
                repeat (go_quiet (fail); try go_wp2)
                refine Cu.meet (by assumption) ?_ (by kernel_rfl) (by kernel_rfl)
                try dsimp only [Cu.pick, Cu.rep, Cu.nth]
                exact ⟨_, (false), Sq.e, H', ⟨by have := HK1.out; have := HJ3.out; have := HK3.out; first | omega | exact Nat.le_refl _⟩, ⟨Sq.rR HO_7.out⟩, ⟨Sq.b BK142.out⟩, ⟨by repeat (first | (with_reducible first | exact HI140.out | apply IsS65.alloc | apply IsS65.drewN | apply IsS65.drew | apply IsS65.set_0 | refine IsS65.far ?_ NB140_142.out _) | exact HI140.out)⟩, ⟨by repeat (first | (with_reducible first | exact HB.out | apply below_alloc | apply pw_below_drewN | apply below_drew1 | refine below_set ?_ (IsS65.ge HI140.out) | refine below_set ?_ GE142.out) | exact HB.out)⟩⟩
               ·rw [if_neg c63] at H
                have c63b0 : ((t151.length : Int) == (t144.length : Int)) = false := beq_eq_false_iff_ne.mpr c63
                have c63b1 : ((t151.length : Int) != (t144.length : Int)) = true := bne_iff_ne.mpr c63
                have c63b2 : (t151.length == t144.length) = false := by first | simpa using c63 | (simp at c63 ⊢; omega)
                have H' := Aside0.mk H
                clear H
                go_wp2
                repeat (go_quiet (fail); try go_wp2)
                refine Cu.meet (by assumption) ?_ (by kernel_rfl) (by kernel_rfl)
                try dsimp only [Cu.pick, Cu.rep, Cu.nth]
                exact ⟨_, (((t151.length : Int) != (wrap64 ((t144.length : Int) + 1)))), Sq.e, H', ⟨by have := HK1.out; have := HJ3.out; have := HK3.out; first | omega | exact Nat.le_refl _⟩, ⟨Sq.rR HO_7.out⟩, ⟨Sq.b BK142.out⟩, ⟨by repeat (first | (with_reducible first | exact HI140.out | apply IsS65.alloc | apply IsS65.drewN | apply IsS65.drew | apply IsS65.set_0 | refine IsS65.far ?_ NB140_142.out _) | exact HI140.out)⟩, ⟨by repeat (first | (with_reducible first | exact HB.out | apply below_alloc | apply pw_below_drewN | apply below_drew1 | refine below_set ?_ (IsS65.ge HI140.out) | refine below_set ?_ GE142.out) | exact HB.out)⟩⟩
              ·rw [if_neg c62] at H
               have c62b0 : (x8_3 == 1) = false := beq_eq_false_iff_ne.mpr c62
               have c62b1 : (x8_3 != 1) = true := bne_iff_ne.mpr c62
               (first | rw [c62b0] | (simp only [i64_w, i32_w]; rw [c62b0]) | skip)
               have H' := Aside0.mk H
               clear H
               go_wp2
               repeat (go_quiet (fail); try go_wp2)
               refine Cu.meet (by assumption) ?_ (by kernel_rfl) (by kernel_rfl)
               try dsimp only [Cu.pick, Cu.rep, Cu.nth]
               exact ⟨_, (true), Sq.e, H', ⟨by have := HK1.out; have := HJ3.out; have := HK3.out; first | omega | exact Nat.le_refl _⟩, ⟨Sq.rR HO_7.out⟩, ⟨Sq.b BK142.out⟩, ⟨by repeat (first | (with_reducible first | exact HI140.out | apply IsS65.alloc | apply IsS65.drewN | apply IsS65.drew | apply IsS65.set_0 | refine IsS65.far ?_ NB140_142.out _) | exact HI140.out)⟩, ⟨by repeat (first | (with_reducible first | exact HB.out | apply below_alloc | apply pw_below_drewN | apply below_drew1 | refine below_set ?_ (IsS65.ge HI140.out) | refine below_set ?_ GE142.out) | exact HB.out)⟩⟩
             ·
              intro wc u18 u19 u20 u21 u22 u23 u24 u25 u26 u27 u28 u29 u30 u31 u32 u33 u34 u35 u36 u37 u38 u39 u40 u41 u42 u43 u44 u45 u46 u47 u48 u49 u50 u51 u52 u53 u54 u55 u56 u57 u58 u59 u60 u61 u62 u63 u64 u65 u66 u67 u68 u69 u70 u71 u72 u73 u74 u75 u76 u77 u78 u79 u80 u81 u82 u83 u84 u85 u86 u87 u88 u89 u90 u91 u92 u93 u94 u95 u96 u97 u98 u99 u100 u101 u102 u103 u104 u105 u106 u107 u108 u109 u110 u111 u112 u113 u114 u115 u116 u117 u118 u119 u120 u121 u122 u123 u124 u125 u126 u127 u128 u129 u130 u131 u132 u133 u134 u135 u136 u137 u138 u139 u140 u141 u142 u143 u144 u145 u146 u147 u148 u149 u150 u151 u152 u153 u154
              try dsimp only [Cu.over, Cu.rep, Cu.nth]
              intro hcut
              clear HC60; (try clear c25b0)
              obtain ⟨kq, x118_59, rfl, HA, HJ59, HO_7, BK142, HI140, HB⟩ := hcut
              cases kq with
              | zero => exact absurd HA.out (by simp [gimballaw27_RateTables.j3])
              | succ kj59 =>
               have H := HA.out
               clear HA
               simp only [gimballaw27_RateTables.j3] at H
               by_cases c64 : x118_59 = true
               ·subst c64
                have H1 : (some false) = some r := by rw [if_pos rfl] at H; exact H
                clear H
                have H := H1
                clear H1
                exact absurd ((Option.some.inj H).trans hrt_.out) (by simp)
               ·replace c64 := Bool.eq_false_iff.mpr c64
                subst c64
                have H1 : (if 0 ≤ x4_1 then (if x4_1 < (l0.length : Int) then (if (Int.tmod ((rd_T31 l0 x4_1).f0) 3) = 0 then ((rate_Table_Drop.f t154 ((rd_T31 l0 x4_1).f1.f0) ((rd_T31 l0 x4_1).f1.f1)).bind fun bt169 => ((rate_Table_Drop.f bt169.2 ((rd_T31 l0 x4_1).f1.f0) ((rd_T31 l0 x4_1).f1.f1)).bind fun bt171 => ((gimballaw27_num.f bt169.1).bind fun t173 => (if t173 = 0 then ((gimballaw27_num.f bt171.1).bind fun t174 => (if t174 = 5 then ((rate_Table_All.f bt171.2).bind fun bt175 => (if (bt175.1.length : Int) = (wrap64 ((t151.length : Int) - 1)) then (gimballaw27_RateTables.l0 kj59 l0 (wrap64 (x4_1 + 1)) bt175.2) else (some false))) else (some false))) else (some false))))) else (gimballaw27_RateTables.l0 kj59 l0 (wrap64 (x4_1 + 1)) t154)) else (none)) else (none)) = some r := by rw [if_neg (show ¬ (false = true) by decide)] at H; exact H
                clear H
                have H := H1
                clear H1
                by_cases c65 : 0 ≤ x4_1
                ·rw [if_pos c65] at H
                 have c65b0 : decide (0 ≤ x4_1) = true := decide_eq_true c65
                 clear c65
                 by_cases c66 : x4_1 < (l0.length : Int)
                 ·rw [if_pos c66] at H
                  have c66b0 : decide (x4_1 < (l0.length : Int)) = true := decide_eq_true c66
                  clear c66
                  by_cases c67 : (Int.tmod ((rd_T31 l0 x4_1).f0) 3) = 0
                  ·rw [if_pos c67] at H
                   have c67b0 : ((Int.tmod ((rd_T31 l0 x4_1).f0) 3) == 0) = true := beq_iff_eq.mpr c67
                   have c67b1 : ((Int.tmod ((rd_T31 l0 x4_1).f0) 3) != 0) = false := bne_eq_false_iff_eq.mpr c67
                   clear c67
                   replace H := Option.bind_eq_some_iff.mp H
                   obtain ⟨⟨t169, t170⟩, A680, H⟩ := H
                   replace H : ((rate_Table_Drop.f t170 ((rd_T31 l0 x4_1).f1.f0) ((rd_T31 l0 x4_1).f1.f1)).bind fun bt171 => ((gimballaw27_num.f t169).bind fun t173 => (if t173 = 0 then ((gimballaw27_num.f bt171.1).bind fun t174 => (if t174 = 5 then ((rate_Table_All.f bt171.2).bind fun bt175 => (if (bt175.1.length : Int) = (wrap64 ((t151.length : Int) - 1)) then (gimballaw27_RateTables.l0 kj59 l0 (wrap64 (x4_1 + 1)) bt175.2) else (some false))) else (some false))) else (some false)))) = some r := H
                   have A68 := Aside0.mk A680
                   clear A680
                   replace H := Option.bind_eq_some_iff.mp H
                   obtain ⟨⟨t171, t172⟩, A690, H⟩ := H
                   replace H : ((gimballaw27_num.f t169).bind fun t173 => (if t173 = 0 then ((gimballaw27_num.f t171).bind fun t174 => (if t174 = 5 then ((rate_Table_All.f t172).bind fun bt175 => (if (bt175.1.length : Int) = (wrap64 ((t151.length : Int) - 1)) then (gimballaw27_RateTables.l0 kj59 l0 (wrap64 (x4_1 + 1)) bt175.2) else (some false))) else (some false))) else (some false))) = some r := H
                   have A69 := Aside0.mk A690
                   clear A690
                   replace H := Option.bind_eq_some_iff.mp H
                   obtain ⟨t173, A700, H⟩ := H
                   replace H : (if t173 = 0 then ((gimballaw27_num.f t171).bind fun t174 => (if t174 = 5 then ((rate_Table_All.f t172).bind fun bt175 => (if (bt175.1.length : Int) = (wrap64 ((t151.length : Int) - 1)) then (gimballaw27_RateTables.l0 kj59 l0 (wrap64 (x4_1 + 1)) bt175.2) else (some false))) else (some false))) else (some false)) = some r := H
                   have A70 := Aside0.mk A700
                   clear A700
                   by_cases c71 : t173 = 0
                   ·rw [if_pos c71] at H
                    have c71b0 : (t173 == 0) = true := beq_iff_eq.mpr c71
                    have c71b1 : (t173 != 0) = false := bne_eq_false_iff_eq.mpr c71
                    clear c71
                    replace H := Option.bind_eq_some_iff.mp H
                    obtain ⟨t174, A720, H⟩ := H
                    replace H : (if t174 = 5 then ((rate_Table_All.f t172).bind fun bt175 => (if (bt175.1.length : Int) = (wrap64 ((t151.length : Int) - 1)) then (gimballaw27_RateTables.l0 kj59 l0 (wrap64 (x4_1 + 1)) bt175.2) else (some false))) else (some false)) = some r := H
                    have A72 := Aside0.mk A720
                    clear A720
                    by_cases c73 : t174 = 5
                    ·rw [if_pos c73] at H
                     have c73b0 : (t174 == 5) = true := beq_iff_eq.mpr c73
                     have c73b1 : (t174 != 5) = false := bne_eq_false_iff_eq.mpr c73
                     clear c73
                     replace H := Option.bind_eq_some_iff.mp H
                     obtain ⟨⟨t175, t178⟩, A740, H⟩ := H
                     replace H : (if (t175.length : Int) = (wrap64 ((t151.length : Int) - 1)) then (gimballaw27_RateTables.l0 kj59 l0 (wrap64 (x4_1 + 1)) t178) else (some false)) = some r := H
                     have A74 := Aside0.mk A740
                     clear A740
                     by_cases c75 : (t175.length : Int) = (wrap64 ((t151.length : Int) - 1))
                     ·rw [if_pos c75] at H
                      have c75b0 : ((t175.length : Int) == (wrap64 ((t151.length : Int) - 1))) = true := beq_iff_eq.mpr c75
                      have c75b1 : ((t175.length : Int) != (wrap64 ((t151.length : Int) - 1))) = false := bne_eq_false_iff_eq.mpr c75
                      clear c75
                      have H' := Aside0.mk H
                      clear H
                      have p168 : 0 ≤ (x4_1 : Int) := of_decide_eq_true (by first | (with_reducible assumption) | assumption)
                      have q168 : x4_1 < (l0.length : Int) := of_decide_eq_true (by first | (with_reducible assumption) | assumption)
                      obtain ⟨ad168, e168, hx168_0, hx168_1, hx168_2, hx168_3, hx168_4, hx168_5⟩ := at_T31 HR0.out x4_1 p168 q168
                      obtain rfl : ad141 = ad168 := (by injection e168)
                      replace hx168_0 := (HB.out.cell (World.block_lt_of_cell? w _ hx168_0)).trans hx168_0
                      replace hx168_1 := (HB.out.cell (World.block_lt_of_cell? w _ hx168_1)).trans hx168_1
                      replace hx168_2 := (HB.out.cell (World.block_lt_of_cell? w _ hx168_2)).trans hx168_2
                      replace hx168_3 := (HB.out.cell (World.block_lt_of_cell? w _ hx168_3)).trans hx168_3
                      replace hx168_4 := (HB.out.cell (World.block_lt_of_cell? w _ hx168_4)).trans hx168_4
                      replace hx168_5 := (HB.out.cell (World.block_lt_of_cell? w _ hx168_5)).trans hx168_5
                      replace p168 := eq_true p168
                      replace q168 := eq_true q168
                      have b76 := NB142_140.out; have d76 := NB140_142.out
                      obtain ⟨z77_0, z77_1, z77_2, z77_3⟩ := Sq.c4 BK142.out
                      obtain ⟨y77_0, y77_1, y77_2, y77_3⟩ := Sq.f4 BK142.out
                      go_wp2_with (first | (go_at_call 10; (with_reducible refine (rate_Table_Drop.calls g140 t154 ((rd_T31 l0 x4_1).f1.f0) ((rd_T31 l0 x4_1).f1.f1) t169 t170 w _ ?side1 ?side2 A68.out).mono ?_); (case side1 => repeat (first | (with_reducible first | exact HI140.out | apply IsS65.alloc | apply IsS65.drewN | apply IsS65.drew | apply IsS65.set_0 | refine IsS65.far ?_ NB140_142.out _) | exact HI140.out)); (case side2 => repeat (first | (with_reducible first | exact HB.out | apply below_alloc | apply pw_below_drewN | apply below_drew1 | refine below_set ?_ (IsS65.ge HI140.out) | refine below_set ?_ GE142.out) | exact HB.out)); rintro e w78 ⟨rfl, hi, hb, hk⟩; replace HO_7 := Aside0.mk (Kd.R_mono (Kd.R_keep (IsS65.apart (show IsS65 w _ g140 t154 from by repeat (first | (with_reducible first | exact HI140.out | apply IsS65.alloc | apply IsS65.drewN | apply IsS65.drew | apply IsS65.set_0 | refine IsS65.far ?_ NB140_142.out _) | exact HI140.out)) (Sq.rR HO_7.out) (by decide)) hk (fun _ h => h.2)) (fun _ h => h.1)); replace BK142 := Aside0.mk (KeepBut.blk hk (g' := gb142) (o := .cells #[.int .i64 ((rd_T31 l0 x4_1).f1.f0), .int .i64 ((rd_T31 l0 x4_1).f1.f1), .int .i64 ((rd_T31 l0 x4_1).f1.f2), .int .i64 ((rd_T31 l0 x4_1).f1.f3)] 29 (0, 0)) (Sq.b BK142.out) NB142_140.out (by simp)); replace HB := Aside0.mk (hb); replace HI140 := Aside0.mk (hi); (try clear hb); (try clear hb2); (try clear hk); (try clear hi); obtain ⟨z79_0, z79_1, z79_2, z79_3⟩ := Sq.c4 BK142.out; obtain ⟨y79_0, y79_1, y79_2, y79_3⟩ := Sq.f4 BK142.out) | (go_at_call 10; (with_reducible refine (rate_Table_Drop.calls g140 t170 ((rd_T31 l0 x4_1).f1.f0) ((rd_T31 l0 x4_1).f1.f1) t171 t172 w _ ?side1 ?side2 A69.out).mono ?_); (case side1 => repeat (first | (with_reducible first | exact HI140.out | apply IsS65.alloc | apply IsS65.drewN | apply IsS65.drew | apply IsS65.set_0 | refine IsS65.far ?_ NB140_142.out _) | exact HI140.out)); (case side2 => repeat (first | (with_reducible first | exact HB.out | apply below_alloc | apply pw_below_drewN | apply below_drew1 | refine below_set ?_ (IsS65.ge HI140.out) | refine below_set ?_ GE142.out) | exact HB.out)); rintro e w80 ⟨rfl, hi, hb, hk⟩; replace HO_7 := Aside0.mk (Kd.R_mono (Kd.R_keep (IsS65.apart (show IsS65 w _ g140 t170 from by repeat (first | (with_reducible first | exact HI140.out | apply IsS65.alloc | apply IsS65.drewN | apply IsS65.drew | apply IsS65.set_0 | refine IsS65.far ?_ NB140_142.out _) | exact HI140.out)) (Sq.rR HO_7.out) (by decide)) hk (fun _ h => h.2)) (fun _ h => h.1)); replace BK142 := Aside0.mk (KeepBut.blk hk (g' := gb142) (o := .cells #[.int .i64 ((rd_T31 l0 x4_1).f1.f0), .int .i64 ((rd_T31 l0 x4_1).f1.f1), .int .i64 ((rd_T31 l0 x4_1).f1.f2), .int .i64 ((rd_T31 l0 x4_1).f1.f3)] 29 (0, 0)) (Sq.b BK142.out) NB142_140.out (by simp)); replace HB := Aside0.mk (hb); replace HI140 := Aside0.mk (hi); (try clear hb); (try clear hb2); (try clear hk); (try clear hi)) | (go_at_call 8; (with_reducible refine (gimballaw27_num.calls t169 t173 _ A70.out).mono ?_); rintro e w' ⟨rfl, ⟨nd, rfl⟩⟩; (try first | exact ⟨rfl, _, World.drewN_drewN _ _ _⟩ | exact ⟨rfl, _, Eq.trans (World.drewN_drewN _ _ _) (congrArg (World.drewN _) (Nat.add_assoc _ _ _))⟩)) | (go_at_call 8; (with_reducible refine (gimballaw27_num.calls t171 t174 _ A72.out).mono ?_); rintro e w' ⟨rfl, ⟨nd, rfl⟩⟩; (try first | exact ⟨rfl, _, World.drewN_drewN _ _ _⟩ | exact ⟨rfl, _, Eq.trans (World.drewN_drewN _ _ _) (congrArg (World.drewN _) (Nat.add_assoc _ _ _))⟩)) | (go_at_call 16; (with_reducible refine (rate_Table_All.calls g140 t172 t175 t178 w _ ?side1 ?side2 A74.out).mono ?_); (case side1 => repeat (first | (with_reducible first | exact HI140.out | apply IsS65.alloc | apply IsS65.drewN | apply IsS65.drew | apply IsS65.set_0 | refine IsS65.far ?_ NB140_142.out _) | exact HI140.out)); (case side2 => repeat (first | (with_reducible first | exact HB.out | apply below_alloc | apply pw_below_drewN | apply below_drew1 | refine below_set ?_ (IsS65.ge HI140.out) | refine below_set ?_ GE142.out) | exact HB.out)); rintro e w81 ⟨v176, rfl, ho0, hi, hb, hk⟩; have HO177 := Aside0.mk (Kd.R_lower (Kd.R_newB (Kd.R_new' ho0 (Kd.R_lt (Sq.rR HO_7.out))) (g := gb142) (o := .cells #[.int .i64 ((rd_T31 l0 x4_1).f1.f0), .int .i64 ((rd_T31 l0 x4_1).f1.f1), .int .i64 ((rd_T31 l0 x4_1).f1.f2), .int .i64 ((rd_T31 l0 x4_1).f1.f3)] 29 (0, 0)) (Sq.b BK142.out)) (below_size (by repeat (first | (with_reducible first | exact HB.out | apply below_alloc | apply pw_below_drewN | apply below_drew1 | refine below_set ?_ (IsS65.ge HI140.out) | refine below_set ?_ GE142.out) | exact HB.out)))); replace HO_7 := Aside0.mk (Kd.R_mono (Kd.R_told (Kd.R_oldK (IsS65.apart (show IsS65 w _ g140 t172 from by repeat (first | (with_reducible first | exact HI140.out | apply IsS65.alloc | apply IsS65.drewN | apply IsS65.drew | apply IsS65.set_0 | refine IsS65.far ?_ NB140_142.out _) | exact HI140.out)) (Sq.rR HO_7.out) (by decide)) hk) (Kd.R_base ho0)) (fun _ h_ => h_.1)); replace BK142 := Aside0.mk (KeepBut.blk hk (g' := gb142) (o := .cells #[.int .i64 ((rd_T31 l0 x4_1).f1.f0), .int .i64 ((rd_T31 l0 x4_1).f1.f1), .int .i64 ((rd_T31 l0 x4_1).f1.f2), .int .i64 ((rd_T31 l0 x4_1).f1.f3)] 29 (0, 0)) (Sq.b BK142.out) NB142_140.out (by simp)); replace HB := Aside0.mk (hb); replace HI140 := Aside0.mk (hi); (try clear hb); (try clear hb2); (try clear hk); (try clear hi); (try clear ho0); obtain ⟨Ao82, co82, eo82⟩ := Kd.R_slice HO177.out; subst eo82))
                      repeat (go_quiet (first | (go_at_call 10; (with_reducible refine (rate_Table_Drop.calls g140 t154 ((rd_T31 l0 x4_1).f1.f0) ((rd_T31 l0 x4_1).f1.f1) t169 t170 w _ ?side1 ?side2 A68.out).mono ?_); (case side1 => repeat (first | (with_reducible first | exact HI140.out | apply IsS65.alloc | apply IsS65.drewN | apply IsS65.drew | apply IsS65.set_0 | refine IsS65.far ?_ NB140_142.out _) | exact HI140.out)); (case side2 => repeat (first | (with_reducible first | exact HB.out | apply below_alloc | apply pw_below_drewN | apply below_drew1 | refine below_set ?_ (IsS65.ge HI140.out) | refine below_set ?_ GE142.out) | exact HB.out)); rintro e w78 ⟨rfl, hi, hb, hk⟩; replace HO_7 := Aside0.mk (Kd.R_mono (Kd.R_keep (IsS65.apart (show IsS65 w _ g140 t154 from by repeat (first | (with_reducible first | exact HI140.out | apply IsS65.alloc | apply IsS65.drewN | apply IsS65.drew | apply IsS65.set_0 | refine IsS65.far ?_ NB140_142.out _) | exact HI140.out)) (Sq.rR HO_7.out) (by decide)) hk (fun _ h => h.2)) (fun _ h => h.1)); replace BK142 := Aside0.mk (KeepBut.blk hk (g' := gb142) (o := .cells #[.int .i64 ((rd_T31 l0 x4_1).f1.f0), .int .i64 ((rd_T31 l0 x4_1).f1.f1), .int .i64 ((rd_T31 l0 x4_1).f1.f2), .int .i64 ((rd_T31 l0 x4_1).f1.f3)] 29 (0, 0)) (Sq.b BK142.out) NB142_140.out (by simp)); replace HB := Aside0.mk (hb); replace HI140 := Aside0.mk (hi); (try clear hb); (try clear hb2); (try clear hk); (try clear hi); obtain ⟨z79_0, z79_1, z79_2, z79_3⟩ := Sq.c4 BK142.out; obtain ⟨y79_0, y79_1, y79_2, y79_3⟩ := Sq.f4 BK142.out) | (go_at_call 10; (with_reducible refine (rate_Table_Drop.calls g140 t170 ((rd_T31 l0 x4_1).f1.f0) ((rd_T31 l0 x4_1).f1.f1) t171 t172 w _ ?side1 ?side2 A69.out).mono ?_); (case side1 => repeat (first | (with_reducible first | exact HI140.out | apply IsS65.alloc | apply IsS65.drewN | apply IsS65.drew | apply IsS65.set_0 | refine IsS65.far ?_ NB140_142.out _) | exact HI140.out)); (case side2 => repeat (first | (with_reducible first | exact HB.out | apply below_alloc | apply pw_below_drewN | apply below_drew1 | refine below_set ?_ (IsS65.ge HI140.out) | refine below_set ?_ GE142.out) | exact HB.out)); rintro e w80 ⟨rfl, hi, hb, hk⟩; replace HO_7 := Aside0.mk (Kd.R_mono (Kd.R_keep (IsS65.apart (show IsS65 w _ g140 t170 from by repeat (first | (with_reducible first | exact HI140.out | apply IsS65.alloc | apply IsS65.drewN | apply IsS65.drew | apply IsS65.set_0 | refine IsS65.far ?_ NB140_142.out _) | exact HI140.out)) (Sq.rR HO_7.out) (by decide)) hk (fun _ h => h.2)) (fun _ h => h.1)); replace BK142 := Aside0.mk (KeepBut.blk hk (g' := gb142) (o := .cells #[.int .i64 ((rd_T31 l0 x4_1).f1.f0), .int .i64 ((rd_T31 l0 x4_1).f1.f1), .int .i64 ((rd_T31 l0 x4_1).f1.f2), .int .i64 ((rd_T31 l0 x4_1).f1.f3)] 29 (0, 0)) (Sq.b BK142.out) NB142_140.out (by simp)); replace HB := Aside0.mk (hb); replace HI140 := Aside0.mk (hi); (try clear hb); (try clear hb2); (try clear hk); (try clear hi)) | (go_at_call 8; (with_reducible refine (gimballaw27_num.calls t169 t173 _ A70.out).mono ?_); rintro e w' ⟨rfl, ⟨nd, rfl⟩⟩; (try first | exact ⟨rfl, _, World.drewN_drewN _ _ _⟩ | exact ⟨rfl, _, Eq.trans (World.drewN_drewN _ _ _) (congrArg (World.drewN _) (Nat.add_assoc _ _ _))⟩)) | (go_at_call 8; (with_reducible refine (gimballaw27_num.calls t171 t174 _ A72.out).mono ?_); rintro e w' ⟨rfl, ⟨nd, rfl⟩⟩; (try first | exact ⟨rfl, _, World.drewN_drewN _ _ _⟩ | exact ⟨rfl, _, Eq.trans (World.drewN_drewN _ _ _) (congrArg (World.drewN _) (Nat.add_assoc _ _ _))⟩)) | (go_at_call 16; (with_reducible refine (rate_Table_All.calls g140 t172 t175 t178 w _ ?side1 ?side2 A74.out).mono ?_); (case side1 => repeat (first | (with_reducible first | exact HI140.out | apply IsS65.alloc | apply IsS65.drewN | apply IsS65.drew | apply IsS65.set_0 | refine IsS65.far ?_ NB140_142.out _) | exact HI140.out)); (case side2 => repeat (first | (with_reducible first | exact HB.out | apply below_alloc | apply pw_below_drewN | apply below_drew1 | refine below_set ?_ (IsS65.ge HI140.out) | refine below_set ?_ GE142.out) | exact HB.out)); rintro e w81 ⟨v176, rfl, ho0, hi, hb, hk⟩; have HO177 := Aside0.mk (Kd.R_lower (Kd.R_newB (Kd.R_new' ho0 (Kd.R_lt (Sq.rR HO_7.out))) (g := gb142) (o := .cells #[.int .i64 ((rd_T31 l0 x4_1).f1.f0), .int .i64 ((rd_T31 l0 x4_1).f1.f1), .int .i64 ((rd_T31 l0 x4_1).f1.f2), .int .i64 ((rd_T31 l0 x4_1).f1.f3)] 29 (0, 0)) (Sq.b BK142.out)) (below_size (by repeat (first | (with_reducible first | exact HB.out | apply below_alloc | apply pw_below_drewN | apply below_drew1 | refine below_set ?_ (IsS65.ge HI140.out) | refine below_set ?_ GE142.out) | exact HB.out)))); replace HO_7 := Aside0.mk (Kd.R_mono (Kd.R_told (Kd.R_oldK (IsS65.apart (show IsS65 w _ g140 t172 from by repeat (first | (with_reducible first | exact HI140.out | apply IsS65.alloc | apply IsS65.drewN | apply IsS65.drew | apply IsS65.set_0 | refine IsS65.far ?_ NB140_142.out _) | exact HI140.out)) (Sq.rR HO_7.out) (by decide)) hk) (Kd.R_base ho0)) (fun _ h_ => h_.1)); replace BK142 := Aside0.mk (KeepBut.blk hk (g' := gb142) (o := .cells #[.int .i64 ((rd_T31 l0 x4_1).f1.f0), .int .i64 ((rd_T31 l0 x4_1).f1.f1), .int .i64 ((rd_T31 l0 x4_1).f1.f2), .int .i64 ((rd_T31 l0 x4_1).f1.f3)] 29 (0, 0)) (Sq.b BK142.out) NB142_140.out (by simp)); replace HB := Aside0.mk (hb); replace HI140 := Aside0.mk (hi); (try clear hb); (try clear hb2); (try clear hk); (try clear hi); (try clear ho0); obtain ⟨Ao82, co82, eo82⟩ := Kd.R_slice HO177.out; subst eo82)); try go_wp2_with (first | (go_at_call 10; (with_reducible refine (rate_Table_Drop.calls g140 t154 ((rd_T31 l0 x4_1).f1.f0) ((rd_T31 l0 x4_1).f1.f1) t169 t170 w _ ?side1 ?side2 A68.out).mono ?_); (case side1 => repeat (first | (with_reducible first | exact HI140.out | apply IsS65.alloc | apply IsS65.drewN | apply IsS65.drew | apply IsS65.set_0 | refine IsS65.far ?_ NB140_142.out _) | exact HI140.out)); (case side2 => repeat (first | (with_reducible first | exact HB.out | apply below_alloc | apply pw_below_drewN | apply below_drew1 | refine below_set ?_ (IsS65.ge HI140.out) | refine below_set ?_ GE142.out) | exact HB.out)); rintro e w78 ⟨rfl, hi, hb, hk⟩; replace HO_7 := Aside0.mk (Kd.R_mono (Kd.R_keep (IsS65.apart (show IsS65 w _ g140 t154 from by repeat (first | (with_reducible first | exact HI140.out | apply IsS65.alloc | apply IsS65.drewN | apply IsS65.drew | apply IsS65.set_0 | refine IsS65.far ?_ NB140_142.out _) | exact HI140.out)) (Sq.rR HO_7.out) (by decide)) hk (fun _ h => h.2)) (fun _ h => h.1)); replace BK142 := Aside0.mk (KeepBut.blk hk (g' := gb142) (o := .cells #[.int .i64 ((rd_T31 l0 x4_1).f1.f0), .int .i64 ((rd_T31 l0 x4_1).f1.f1), .int .i64 ((rd_T31 l0 x4_1).f1.f2), .int .i64 ((rd_T31 l0 x4_1).f1.f3)] 29 (0, 0)) (Sq.b BK142.out) NB142_140.out (by simp)); replace HB := Aside0.mk (hb); replace HI140 := Aside0.mk (hi); (try clear hb); (try clear hb2); (try clear hk); (try clear hi); obtain ⟨z79_0, z79_1, z79_2, z79_3⟩ := Sq.c4 BK142.out; obtain ⟨y79_0, y79_1, y79_2, y79_3⟩ := Sq.f4 BK142.out) | (go_at_call 10; (with_reducible refine (rate_Table_Drop.calls g140 t170 ((rd_T31 l0 x4_1).f1.f0) ((rd_T31 l0 x4_1).f1.f1) t171 t172 w _ ?side1 ?side2 A69.out).mono ?_); (case side1 => repeat (first | (with_reducible first | exact HI140.out | apply IsS65.alloc | apply IsS65.drewN | apply IsS65.drew | apply IsS65.set_0 | refine IsS65.far ?_ NB140_142.out _) | exact HI140.out)); (case side2 => repeat (first | (with_reducible first | exact HB.out | apply below_alloc | apply pw_below_drewN | apply below_drew1 | refine below_set ?_ (IsS65.ge HI140.out) | refine below_set ?_ GE142.out) | exact HB.out)); rintro e w80 ⟨rfl, hi, hb, hk⟩; replace HO_7 := Aside0.mk (Kd.R_mono (Kd.R_keep (IsS65.apart (show IsS65 w _ g140 t170 from by repeat (first | (with_reducible first | exact HI140.out | apply IsS65.alloc | apply IsS65.drewN | apply IsS65.drew | apply IsS65.set_0 | refine IsS65.far ?_ NB140_142.out _) | exact HI140.out)) (Sq.rR HO_7.out) (by decide)) hk (fun _ h => h.2)) (fun _ h => h.1)); replace BK142 := Aside0.mk (KeepBut.blk hk (g' := gb142) (o := .cells #[.int .i64 ((rd_T31 l0 x4_1).f1.f0), .int .i64 ((rd_T31 l0 x4_1).f1.f1), .int .i64 ((rd_T31 l0 x4_1).f1.f2), .int .i64 ((rd_T31 l0 x4_1).f1.f3)] 29 (0, 0)) (Sq.b BK142.out) NB142_140.out (by simp)); replace HB := Aside0.mk (hb); replace HI140 := Aside0.mk (hi); (try clear hb); (try clear hb2); (try clear hk); (try clear hi)) | (go_at_call 8; (with_reducible refine (gimballaw27_num.calls t169 t173 _ A70.out).mono ?_); rintro e w' ⟨rfl, ⟨nd, rfl⟩⟩; (try first | exact ⟨rfl, _, World.drewN_drewN _ _ _⟩ | exact ⟨rfl, _, Eq.trans (World.drewN_drewN _ _ _) (congrArg (World.drewN _) (Nat.add_assoc _ _ _))⟩)) | (go_at_call 8; (with_reducible refine (gimballaw27_num.calls t171 t174 _ A72.out).mono ?_); rintro e w' ⟨rfl, ⟨nd, rfl⟩⟩; (try first | exact ⟨rfl, _, World.drewN_drewN _ _ _⟩ | exact ⟨rfl, _, Eq.trans (World.drewN_drewN _ _ _) (congrArg (World.drewN _) (Nat.add_assoc _ _ _))⟩)) | (go_at_call 16; (with_reducible refine (rate_Table_All.calls g140 t172 t175 t178 w _ ?side1 ?side2 A74.out).mono ?_); (case side1 => repeat (first | (with_reducible first | exact HI140.out | apply IsS65.alloc | apply IsS65.drewN | apply IsS65.drew | apply IsS65.set_0 | refine IsS65.far ?_ NB140_142.out _) | exact HI140.out)); (case side2 => repeat (first | (with_reducible first | exact HB.out | apply below_alloc | apply pw_below_drewN | apply below_drew1 | refine below_set ?_ (IsS65.ge HI140.out) | refine below_set ?_ GE142.out) | exact HB.out)); rintro e w81 ⟨v176, rfl, ho0, hi, hb, hk⟩; have HO177 := Aside0.mk (Kd.R_lower (Kd.R_newB (Kd.R_new' ho0 (Kd.R_lt (Sq.rR HO_7.out))) (g := gb142) (o := .cells #[.int .i64 ((rd_T31 l0 x4_1).f1.f0), .int .i64 ((rd_T31 l0 x4_1).f1.f1), .int .i64 ((rd_T31 l0 x4_1).f1.f2), .int .i64 ((rd_T31 l0 x4_1).f1.f3)] 29 (0, 0)) (Sq.b BK142.out)) (below_size (by repeat (first | (with_reducible first | exact HB.out | apply below_alloc | apply pw_below_drewN | apply below_drew1 | refine below_set ?_ (IsS65.ge HI140.out) | refine below_set ?_ GE142.out) | exact HB.out)))); replace HO_7 := Aside0.mk (Kd.R_mono (Kd.R_told (Kd.R_oldK (IsS65.apart (show IsS65 w _ g140 t172 from by repeat (first | (with_reducible first | exact HI140.out | apply IsS65.alloc | apply IsS65.drewN | apply IsS65.drew | apply IsS65.set_0 | refine IsS65.far ?_ NB140_142.out _) | exact HI140.out)) (Sq.rR HO_7.out) (by decide)) hk) (Kd.R_base ho0)) (fun _ h_ => h_.1)); replace BK142 := Aside0.mk (KeepBut.blk hk (g' := gb142) (o := .cells #[.int .i64 ((rd_T31 l0 x4_1).f1.f0), .int .i64 ((rd_T31 l0 x4_1).f1.f1), .int .i64 ((rd_T31 l0 x4_1).f1.f2), .int .i64 ((rd_T31 l0 x4_1).f1.f3)] 29 (0, 0)) (Sq.b BK142.out) NB142_140.out (by simp)); replace HB := Aside0.mk (hb); replace HI140 := Aside0.mk (hi); (try clear hb); (try clear hb2); (try clear hk); (try clear hi); (try clear ho0); obtain ⟨Ao82, co82, eo82⟩ := Kd.R_slice HO177.out; subst eo82)))
                      refine Cu.handed kj59 (by have := HK1.out; have := HJ3.out; have := HK3.out; have := HJ59.out; omega) (by assumption) ?_ (by kernel_rfl) (by kernel_rfl)
                      try dsimp only [Cu.pick, Cu.rep, Cu.nth]
                      exact ⟨(wrap64 (x4_1 + 1)), (t178), Sq.e, H', ⟨by have := HK1.out; have := HJ3.out; have := HK3.out; have := HJ59.out; omega⟩, ⟨by repeat (first | (with_reducible first | exact HI140.out | apply IsS65.alloc | apply IsS65.drewN | apply IsS65.drew | apply IsS65.set_0 | refine IsS65.far ?_ NB140_142.out _) | exact HI140.out)⟩, ⟨by repeat (first | (with_reducible first | exact HB.out | apply below_alloc | apply pw_below_drewN | apply below_drew1 | refine below_set ?_ (IsS65.ge HI140.out) | refine below_set ?_ GE142.out) | exact HB.out)⟩⟩
                     ·rw [if_neg c75] at H
                      have c75b0 : ((t175.length : Int) == (wrap64 ((t151.length : Int) - 1))) = false := beq_eq_false_iff_ne.mpr c75
                      have c75b1 : ((t175.length : Int) != (wrap64 ((t151.length : Int) - 1))) = true := bne_iff_ne.mpr c75
                      exact absurd ((Option.some.inj H).trans hrt_.out) (by simp)
                    ·rw [if_neg c73] at H
                     have c73b0 : (t174 == 5) = false := beq_eq_false_iff_ne.mpr c73
                     have c73b1 : (t174 != 5) = true := bne_iff_ne.mpr c73
                     exact absurd ((Option.some.inj H).trans hrt_.out) (by simp)
                   ·rw [if_neg c71] at H
                    have c71b0 : (t173 == 0) = false := beq_eq_false_iff_ne.mpr c71
                    have c71b1 : (t173 != 0) = true := bne_iff_ne.mpr c71
                    exact absurd ((Option.some.inj H).trans hrt_.out) (by simp)
                  ·rw [if_neg c67] at H
                   have c67b0 : ((Int.tmod ((rd_T31 l0 x4_1).f0) 3) == 0) = false := beq_eq_false_iff_ne.mpr c67
                   have c67b1 : ((Int.tmod ((rd_T31 l0 x4_1).f0) 3) != 0) = true := bne_iff_ne.mpr c67
                   have H' := Aside0.mk H
                   clear H
                   have p168 : 0 ≤ (x4_1 : Int) := of_decide_eq_true (by first | (with_reducible assumption) | assumption)
                   have q168 : x4_1 < (l0.length : Int) := of_decide_eq_true (by first | (with_reducible assumption) | assumption)
                   obtain ⟨ad168, e168, hx168_0, hx168_1, hx168_2, hx168_3, hx168_4, hx168_5⟩ := at_T31 HR0.out x4_1 p168 q168
                   obtain rfl : ad141 = ad168 := (by injection e168)
                   replace hx168_0 := (HB.out.cell (World.block_lt_of_cell? w _ hx168_0)).trans hx168_0
                   replace hx168_1 := (HB.out.cell (World.block_lt_of_cell? w _ hx168_1)).trans hx168_1
                   replace hx168_2 := (HB.out.cell (World.block_lt_of_cell? w _ hx168_2)).trans hx168_2
                   replace hx168_3 := (HB.out.cell (World.block_lt_of_cell? w _ hx168_3)).trans hx168_3
                   replace hx168_4 := (HB.out.cell (World.block_lt_of_cell? w _ hx168_4)).trans hx168_4
                   replace hx168_5 := (HB.out.cell (World.block_lt_of_cell? w _ hx168_5)).trans hx168_5
                   replace p168 := eq_true p168
                   replace q168 := eq_true q168
                   go_wp2
                   repeat (go_quiet (fail); try go_wp2)
                   refine Cu.handed kj59 (by have := HK1.out; have := HJ3.out; have := HK3.out; have := HJ59.out; omega) (by assumption) ?_ (by kernel_rfl) (by kernel_rfl)
                   try dsimp only [Cu.pick, Cu.rep, Cu.nth]
                   exact ⟨(wrap64 (x4_1 + 1)), (t154), Sq.e, H', ⟨by have := HK1.out; have := HJ3.out; have := HK3.out; have := HJ59.out; omega⟩, ⟨by repeat (first | (with_reducible first | exact HI140.out | apply IsS65.alloc | apply IsS65.drewN | apply IsS65.drew | apply IsS65.set_0 | refine IsS65.far ?_ NB140_142.out _) | exact HI140.out)⟩, ⟨by repeat (first | (with_reducible first | exact HB.out | apply below_alloc | apply pw_below_drewN | apply below_drew1 | refine below_set ?_ (IsS65.ge HI140.out) | refine below_set ?_ GE142.out) | exact HB.out)⟩⟩
                 ·rw [if_neg c66] at H
                  exact absurd H (by simp)
                ·rw [if_neg c65] at H
                 exact absurd H (by simp)
         ·rw [if_neg c14] at H
          have c14b0 : (t150 == 0) = false := beq_eq_false_iff_ne.mpr c14
          have c14b1 : (t150 != 0) = true := bne_iff_ne.mpr c14
          exact absurd ((Option.some.inj H).trans hrt_.out) (by simp)
        ·replace c10 := Bool.eq_false_iff.mpr c10
         subst c10
         have H1 : (gimballaw27_RateTables.l0 kj3 l0 (wrap64 (x4_1 + 1)) x141000_1) = some r := by rw [if_neg (show ¬ (false = true) by decide)] at H; exact H
         clear H
         have H := H1
         clear H1
         have H' := Aside0.mk H
         clear H
         have p141 : 0 ≤ (x4_1 : Int) := of_decide_eq_true (by first | (with_reducible assumption) | assumption)
         have q141 : x4_1 < (l0.length : Int) := of_decide_eq_true (by first | (with_reducible assumption) | assumption)
         obtain ⟨ad141, e141, hx141_0, hx141_1, hx141_2, hx141_3, hx141_4, hx141_5⟩ := at_T31 HR0.out x4_1 p141 q141
         cases e141
         replace hx141_0 := (HB.out.cell (World.block_lt_of_cell? w _ hx141_0)).trans hx141_0
         replace hx141_1 := (HB.out.cell (World.block_lt_of_cell? w _ hx141_1)).trans hx141_1
         replace hx141_2 := (HB.out.cell (World.block_lt_of_cell? w _ hx141_2)).trans hx141_2
         replace hx141_3 := (HB.out.cell (World.block_lt_of_cell? w _ hx141_3)).trans hx141_3
         replace hx141_4 := (HB.out.cell (World.block_lt_of_cell? w _ hx141_4)).trans hx141_4
         replace hx141_5 := (HB.out.cell (World.block_lt_of_cell? w _ hx141_5)).trans hx141_5
         replace p141 := eq_true p141
         replace q141 := eq_true q141
         go_wp2_with (first | ((with_reducible refine gate_dst (N := 5) rfl ?_); (try (refine gate_guard (by rfl) ?_; dsimp only)); refine box_event ?hg (N := 5) ?hd (cs := #[.int .i64 0, .int .i64 0, .int .i64 0, .int .i64 0]) (t := 29) ?hr ?_; (case hd => rfl); (case hg => rfl); (case hr => first | (go_simp; done) | (go_simp; rfl)); intro gb142 hg w83 hbox hb; have n0_ := Aside0.mk (IsS65.below (by repeat (first | (with_reducible first | exact HI140.out | apply IsS65.alloc | apply IsS65.drewN | apply IsS65.drew | apply IsS65.set_0) | exact HI140.out)) hb); have n1_ := Aside0.mk (below_step (by repeat (first | (with_reducible first | exact HB.out | apply below_alloc | apply pw_below_drewN | apply below_drew1 | refine below_set ?_ (IsS65.ge HI140.out)) | exact HB.out)) hb); have n2_ := Aside0.mk (hbox); have n3_ := Aside0.mk ((by rw [hg]; exact (below_size (by repeat (first | (with_reducible first | exact HB.out | apply below_alloc | apply pw_below_drewN | apply below_drew1 | refine below_set ?_ (IsS65.ge HI140.out)) | exact HB.out))) : w.heap.size ≤ gb142)); have n4_ := Aside0.mk ((by rw [hg]; exact (below_size (by repeat (first | (with_reducible first | exact HB.out | apply below_alloc | apply pw_below_drewN | apply below_drew1 | refine below_set ?_ (IsS65.ge HI140.out)) | exact HB.out))) : w.heap.size ≤ gb142)); have n5_ := Aside0.mk ((by rw [hg]; exact Nat.ne_of_lt (IsS65.lt (show IsS65 w _ g140 x141000_1 from by repeat (first | (with_reducible first | exact HI140.out | apply IsS65.alloc | apply IsS65.drewN | apply IsS65.drew | apply IsS65.set_0) | exact HI140.out))) : g140 ≠ gb142)); have n6_ := Aside0.mk ((by rw [hg]; exact Nat.ne_of_gt (IsS65.lt (show IsS65 w _ g140 x141000_1 from by repeat (first | (with_reducible first | exact HI140.out | apply IsS65.alloc | apply IsS65.drewN | apply IsS65.drew | apply IsS65.set_0) | exact HI140.out))) : gb142 ≠ g140)); clear HI140; clear HB; have HI140 := n0_; have HB := n1_; have BK142 := n2_; have GW142 := n3_; have GE142 := n4_; have NB140_142 := n5_; have NB142_140 := n6_; clear n0_ n1_ n2_ n3_ n4_ n5_ n6_; clear hb hbox hg; have b84 := NB142_140.out; have d84 := NB140_142.out; obtain ⟨z85_0, z85_1, z85_2, z85_3⟩ := Sq.c4 BK142.out; obtain ⟨y85_0, y85_1, y85_2, y85_3⟩ := Sq.f4 BK142.out) | (go_at_call 15; (with_reducible refine (gimbalref25_MaySub.calls ((rd_T31 l0 x4_1).f1.f0) ((rd_T31 l0 x4_1).f1.f1) ((rd_T31 l0 x4_1).f1.f2) ((rd_T31 l0 x4_1).f1.f3) false _ A9.out).mono ?_); rintro e w86 ⟨rfl, hb⟩; have n0_ := Aside0.mk (IsS65.below (show IsS65 w ((((w83.setCell ⟨gb142, 0, none⟩ (.int .i64 ((rd_T31 l0 x4_1).f1.f0))).setCell ⟨gb142, 1, none⟩ (.int .i64 ((rd_T31 l0 x4_1).f1.f1))).setCell ⟨gb142, 2, none⟩ (.int .i64 ((rd_T31 l0 x4_1).f1.f2))).setCell ⟨gb142, 3, none⟩ (.int .i64 ((rd_T31 l0 x4_1).f1.f3))) g140 x141000_1 from by repeat (first | (with_reducible first | exact HI140.out | apply IsS65.alloc | apply IsS65.drewN | apply IsS65.drew | apply IsS65.set_0 | refine IsS65.far ?_ NB140_142.out _) | exact HI140.out)) hb); have n1_ := Aside0.mk (blk_below (g := gb142) (o := .cells #[.int .i64 ((rd_T31 l0 x4_1).f1.f0), .int .i64 ((rd_T31 l0 x4_1).f1.f1), .int .i64 ((rd_T31 l0 x4_1).f1.f2), .int .i64 ((rd_T31 l0 x4_1).f1.f3)] 29 (0, 0)) (Sq.B BK142.out) hb); have n2_ := Aside0.mk (below_step (by repeat (first | (with_reducible first | exact HB.out | apply below_alloc | apply pw_below_drewN | apply below_drew1 | refine below_set ?_ (IsS65.ge HI140.out) | refine below_set ?_ GE142.out) | exact HB.out)) hb); clear HI140; clear BK142; clear HB; have HI140 := n0_; have BK142 := n1_; have HB := n2_; clear n0_ n1_ n2_; (try clear hb); (try clear hb2); (try clear hk); (try clear hi)))
         repeat (go_quiet (first | ((with_reducible refine gate_dst (N := 5) rfl ?_); (try (refine gate_guard (by rfl) ?_; dsimp only)); refine box_event ?hg (N := 5) ?hd (cs := #[.int .i64 0, .int .i64 0, .int .i64 0, .int .i64 0]) (t := 29) ?hr ?_; (case hd => rfl); (case hg => rfl); (case hr => first | (go_simp; done) | (go_simp; rfl)); intro gb142 hg w83 hbox hb; have n0_ := Aside0.mk (IsS65.below (by repeat (first | (with_reducible first | exact HI140.out | apply IsS65.alloc | apply IsS65.drewN | apply IsS65.drew | apply IsS65.set_0) | exact HI140.out)) hb); have n1_ := Aside0.mk (below_step (by repeat (first | (with_reducible first | exact HB.out | apply below_alloc | apply pw_below_drewN | apply below_drew1 | refine below_set ?_ (IsS65.ge HI140.out)) | exact HB.out)) hb); have n2_ := Aside0.mk (hbox); have n3_ := Aside0.mk ((by rw [hg]; exact (below_size (by repeat (first | (with_reducible first | exact HB.out | apply below_alloc | apply pw_below_drewN | apply below_drew1 | refine below_set ?_ (IsS65.ge HI140.out)) | exact HB.out))) : w.heap.size ≤ gb142)); have n4_ := Aside0.mk ((by rw [hg]; exact (below_size (by repeat (first | (with_reducible first | exact HB.out | apply below_alloc | apply pw_below_drewN | apply below_drew1 | refine below_set ?_ (IsS65.ge HI140.out)) | exact HB.out))) : w.heap.size ≤ gb142)); have n5_ := Aside0.mk ((by rw [hg]; exact Nat.ne_of_lt (IsS65.lt (show IsS65 w _ g140 x141000_1 from by repeat (first | (with_reducible first | exact HI140.out | apply IsS65.alloc | apply IsS65.drewN | apply IsS65.drew | apply IsS65.set_0) | exact HI140.out))) : g140 ≠ gb142)); have n6_ := Aside0.mk ((by rw [hg]; exact Nat.ne_of_gt (IsS65.lt (show IsS65 w _ g140 x141000_1 from by repeat (first | (with_reducible first | exact HI140.out | apply IsS65.alloc | apply IsS65.drewN | apply IsS65.drew | apply IsS65.set_0) | exact HI140.out))) : gb142 ≠ g140)); clear HI140; clear HB; have HI140 := n0_; have HB := n1_; have BK142 := n2_; have GW142 := n3_; have GE142 := n4_; have NB140_142 := n5_; have NB142_140 := n6_; clear n0_ n1_ n2_ n3_ n4_ n5_ n6_; clear hb hbox hg; have b84 := NB142_140.out; have d84 := NB140_142.out; obtain ⟨z85_0, z85_1, z85_2, z85_3⟩ := Sq.c4 BK142.out; obtain ⟨y85_0, y85_1, y85_2, y85_3⟩ := Sq.f4 BK142.out) | (go_at_call 15; (with_reducible refine (gimbalref25_MaySub.calls ((rd_T31 l0 x4_1).f1.f0) ((rd_T31 l0 x4_1).f1.f1) ((rd_T31 l0 x4_1).f1.f2) ((rd_T31 l0 x4_1).f1.f3) false _ A9.out).mono ?_); rintro e w86 ⟨rfl, hb⟩; have n0_ := Aside0.mk (IsS65.below (show IsS65 w ((((w83.setCell ⟨gb142, 0, none⟩ (.int .i64 ((rd_T31 l0 x4_1).f1.f0))).setCell ⟨gb142, 1, none⟩ (.int .i64 ((rd_T31 l0 x4_1).f1.f1))).setCell ⟨gb142, 2, none⟩ (.int .i64 ((rd_T31 l0 x4_1).f1.f2))).setCell ⟨gb142, 3, none⟩ (.int .i64 ((rd_T31 l0 x4_1).f1.f3))) g140 x141000_1 from by repeat (first | (with_reducible first | exact HI140.out | apply IsS65.alloc | apply IsS65.drewN | apply IsS65.drew | apply IsS65.set_0 | refine IsS65.far ?_ NB140_142.out _) | exact HI140.out)) hb); have n1_ := Aside0.mk (blk_below (g := gb142) (o := .cells #[.int .i64 ((rd_T31 l0 x4_1).f1.f0), .int .i64 ((rd_T31 l0 x4_1).f1.f1), .int .i64 ((rd_T31 l0 x4_1).f1.f2), .int .i64 ((rd_T31 l0 x4_1).f1.f3)] 29 (0, 0)) (Sq.B BK142.out) hb); have n2_ := Aside0.mk (below_step (by repeat (first | (with_reducible first | exact HB.out | apply below_alloc | apply pw_below_drewN | apply below_drew1 | refine below_set ?_ (IsS65.ge HI140.out) | refine below_set ?_ GE142.out) | exact HB.out)) hb); clear HI140; clear BK142; clear HB; have HI140 := n0_; have BK142 := n1_; have HB := n2_; clear n0_ n1_ n2_; (try clear hb); (try clear hb2); (try clear hk); (try clear hi))); try go_wp2_with (first | ((with_reducible refine gate_dst (N := 5) rfl ?_); (try (refine gate_guard (by rfl) ?_; dsimp only)); refine box_event ?hg (N := 5) ?hd (cs := #[.int .i64 0, .int .i64 0, .int .i64 0, .int .i64 0]) (t := 29) ?hr ?_; (case hd => rfl); (case hg => rfl); (case hr => first | (go_simp; done) | (go_simp; rfl)); intro gb142 hg w83 hbox hb; have n0_ := Aside0.mk (IsS65.below (by repeat (first | (with_reducible first | exact HI140.out | apply IsS65.alloc | apply IsS65.drewN | apply IsS65.drew | apply IsS65.set_0) | exact HI140.out)) hb); have n1_ := Aside0.mk (below_step (by repeat (first | (with_reducible first | exact HB.out | apply below_alloc | apply pw_below_drewN | apply below_drew1 | refine below_set ?_ (IsS65.ge HI140.out)) | exact HB.out)) hb); have n2_ := Aside0.mk (hbox); have n3_ := Aside0.mk ((by rw [hg]; exact (below_size (by repeat (first | (with_reducible first | exact HB.out | apply below_alloc | apply pw_below_drewN | apply below_drew1 | refine below_set ?_ (IsS65.ge HI140.out)) | exact HB.out))) : w.heap.size ≤ gb142)); have n4_ := Aside0.mk ((by rw [hg]; exact (below_size (by repeat (first | (with_reducible first | exact HB.out | apply below_alloc | apply pw_below_drewN | apply below_drew1 | refine below_set ?_ (IsS65.ge HI140.out)) | exact HB.out))) : w.heap.size ≤ gb142)); have n5_ := Aside0.mk ((by rw [hg]; exact Nat.ne_of_lt (IsS65.lt (show IsS65 w _ g140 x141000_1 from by repeat (first | (with_reducible first | exact HI140.out | apply IsS65.alloc | apply IsS65.drewN | apply IsS65.drew | apply IsS65.set_0) | exact HI140.out))) : g140 ≠ gb142)); have n6_ := Aside0.mk ((by rw [hg]; exact Nat.ne_of_gt (IsS65.lt (show IsS65 w _ g140 x141000_1 from by repeat (first | (with_reducible first | exact HI140.out | apply IsS65.alloc | apply IsS65.drewN | apply IsS65.drew | apply IsS65.set_0) | exact HI140.out))) : gb142 ≠ g140)); clear HI140; clear HB; have HI140 := n0_; have HB := n1_; have BK142 := n2_; have GW142 := n3_; have GE142 := n4_; have NB140_142 := n5_; have NB142_140 := n6_; clear n0_ n1_ n2_ n3_ n4_ n5_ n6_; clear hb hbox hg; have b84 := NB142_140.out; have d84 := NB140_142.out; obtain ⟨z85_0, z85_1, z85_2, z85_3⟩ := Sq.c4 BK142.out; obtain ⟨y85_0, y85_1, y85_2, y85_3⟩ := Sq.f4 BK142.out) | (go_at_call 15; (with_reducible refine (gimbalref25_MaySub.calls ((rd_T31 l0 x4_1).f1.f0) ((rd_T31 l0 x4_1).f1.f1) ((rd_T31 l0 x4_1).f1.f2) ((rd_T31 l0 x4_1).f1.f3) false _ A9.out).mono ?_); rintro e w86 ⟨rfl, hb⟩; have n0_ := Aside0.mk (IsS65.below (show IsS65 w ((((w83.setCell ⟨gb142, 0, none⟩ (.int .i64 ((rd_T31 l0 x4_1).f1.f0))).setCell ⟨gb142, 1, none⟩ (.int .i64 ((rd_T31 l0 x4_1).f1.f1))).setCell ⟨gb142, 2, none⟩ (.int .i64 ((rd_T31 l0 x4_1).f1.f2))).setCell ⟨gb142, 3, none⟩ (.int .i64 ((rd_T31 l0 x4_1).f1.f3))) g140 x141000_1 from by repeat (first | (with_reducible first | exact HI140.out | apply IsS65.alloc | apply IsS65.drewN | apply IsS65.drew | apply IsS65.set_0 | refine IsS65.far ?_ NB140_142.out _) | exact HI140.out)) hb); have n1_ := Aside0.mk (blk_below (g := gb142) (o := .cells #[.int .i64 ((rd_T31 l0 x4_1).f1.f0), .int .i64 ((rd_T31 l0 x4_1).f1.f1), .int .i64 ((rd_T31 l0 x4_1).f1.f2), .int .i64 ((rd_T31 l0 x4_1).f1.f3)] 29 (0, 0)) (Sq.B BK142.out) hb); have n2_ := Aside0.mk (below_step (by repeat (first | (with_reducible first | exact HB.out | apply below_alloc | apply pw_below_drewN | apply below_drew1 | refine below_set ?_ (IsS65.ge HI140.out) | refine below_set ?_ GE142.out) | exact HB.out)) hb); clear HI140; clear BK142; clear HB; have HI140 := n0_; have BK142 := n1_; have HB := n2_; clear n0_ n1_ n2_; (try clear hb); (try clear hb2); (try clear hk); (try clear hi))))
         refine Cu.handed kj3 (by have := HK1.out; have := HJ3.out; omega) (by assumption) ?_ (by kernel_rfl) (by kernel_rfl)
         try dsimp only [Cu.pick, Cu.rep, Cu.nth]
         exact ⟨(wrap64 (x4_1 + 1)), (x141000_1), Sq.e, H', ⟨by have := HK1.out; have := HJ3.out; omega⟩, ⟨by repeat (first | (with_reducible first | exact HI140.out | apply IsS65.alloc | apply IsS65.drewN | apply IsS65.drew | apply IsS65.set_0 | refine IsS65.far ?_ NB140_142.out _) | exact HI140.out)⟩, ⟨by repeat (first | (with_reducible first | exact HB.out | apply below_alloc | apply pw_below_drewN | apply below_drew1 | refine below_set ?_ (IsS65.ge HI140.out) | refine below_set ?_ GE142.out) | exact HB.out)⟩⟩
       ·rw [if_neg c8] at H
        exact absurd H (by simp)
      ·rw [if_neg c7] at H
       exact absurd H (by simp)
     ·replace c6 := Bool.eq_false_iff.mpr c6
      subst c6
      have H1 : ((rate_Table_Clear.f x141000_1).bind fun t179 => (gimballaw27_RateTables.l2 kj3 1 t179)) = some r := by rw [if_neg (show ¬ (false = true) by decide)] at H; exact H
      clear H
      have H := H1
      clear H1
      replace H := Option.bind_eq_some_iff.mp H
      obtain ⟨t179, A870, H⟩ := H
      replace H : (gimballaw27_RateTables.l2 kj3 1 t179) = some r := H
      have A87 := Aside0.mk A870
      clear A870
      have H' := Aside0.mk H
      clear H
      go_wp2_with (first | (go_at_call 17; (with_reducible refine (rate_Table_Clear.calls g140 x141000_1 t179 w _ ?side1 ?side2 A87.out).mono ?_); (case side1 => repeat (first | (with_reducible first | exact HI140.out | apply IsS65.alloc | apply IsS65.drewN | apply IsS65.drew | apply IsS65.set_0) | exact HI140.out)); (case side2 => repeat (first | (with_reducible first | exact HB.out | apply below_alloc | apply pw_below_drewN | apply below_drew1 | refine below_set ?_ (IsS65.ge HI140.out)) | exact HB.out)); rintro e w88 ⟨rfl, hi, hb, hk⟩; replace HB := Aside0.mk (hb); replace HI140 := Aside0.mk (hi); (try clear hb); (try clear hb2); (try clear hk); (try clear hi)))
      repeat (go_quiet (first | (go_at_call 17; (with_reducible refine (rate_Table_Clear.calls g140 x141000_1 t179 w _ ?side1 ?side2 A87.out).mono ?_); (case side1 => repeat (first | (with_reducible first | exact HI140.out | apply IsS65.alloc | apply IsS65.drewN | apply IsS65.drew | apply IsS65.set_0) | exact HI140.out)); (case side2 => repeat (first | (with_reducible first | exact HB.out | apply below_alloc | apply pw_below_drewN | apply below_drew1 | refine below_set ?_ (IsS65.ge HI140.out)) | exact HB.out)); rintro e w88 ⟨rfl, hi, hb, hk⟩; replace HB := Aside0.mk (hb); replace HI140 := Aside0.mk (hi); (try clear hb); (try clear hb2); (try clear hk); (try clear hi))); try go_wp2_with (first | (go_at_call 17; (with_reducible refine (rate_Table_Clear.calls g140 x141000_1 t179 w _ ?side1 ?side2 A87.out).mono ?_); (case side1 => repeat (first | (with_reducible first | exact HI140.out | apply IsS65.alloc | apply IsS65.drewN | apply IsS65.drew | apply IsS65.set_0) | exact HI140.out)); (case side2 => repeat (first | (with_reducible first | exact HB.out | apply below_alloc | apply pw_below_drewN | apply below_drew1 | refine below_set ?_ (IsS65.ge HI140.out)) | exact HB.out)); rintro e w88 ⟨rfl, hi, hb, hk⟩; replace HB := Aside0.mk (hb); replace HI140 := Aside0.mk (hi); (try clear hb); (try clear hb2); (try clear hk); (try clear hi))))
      refine Cu.wp_loop (Cu.rep 2 Cu.f (Cu.rep 1 Cu.t (Cu.rep 9 Cu.f (Cu.rep 3 Cu.t (Cu.rep 142 Cu.f (Cu.rep 18 Cu.t (Cu.rep 7 Cu.f []))))))) 22 (fun kq us_ w' => ∃ (x12_3 : Int) (x141000_3 : Rt.Tb), (Cu.nth us_ 1) = .int .i64 x12_3 ∧ Aside0 (gimballaw27_RateTables.l2 kq x12_3 x141000_3 = some r) ∧ Aside0 (kq ≤ kj3) ∧ Aside0 (IsS65 w w' g140 x141000_3) ∧ Aside0 (Below w.heap.size w w')) kj3 ?_ (by kernel_rfl) (by kernel_rfl) ?_
      · try dsimp only [Cu.pick, Cu.rep, Cu.nth]
        exact ⟨(1), (t179), Sq.e, H', ⟨Nat.le_refl _⟩, ⟨by repeat (first | (with_reducible first | exact HI140.out | apply IsS65.alloc | apply IsS65.drewN | apply IsS65.drew | apply IsS65.set_0) | exact HI140.out)⟩, ⟨by repeat (first | (with_reducible first | exact HB.out | apply below_alloc | apply pw_below_drewN | apply below_drew1 | refine below_set ?_ (IsS65.ge HI140.out)) | exact HB.out)⟩⟩
      ·
       intro gk wr u2 u12 u13 u14 u157 u158 u159 u160 u161 u162 u163 u164 u165 u166 u167 u168 u169 u170 u171 u172 u173 u174
       try dsimp only [Cu.over, Cu.rep, Cu.nth]
       intro hrel _ _ _ _
       clear H'; (try clear c6)
       obtain ⟨x12_3, x141000_3, rfl, HA, HK3, HI140, HB⟩ := hrel
       cases gk with
       | zero => exact absurd HA.out (by simp [gimballaw27_RateTables.l2])
       | succ k3 =>
        have H := HA.out
        clear HA
        simp only [gimballaw27_RateTables.l2] at H
        by_cases c89 : x12_3 ≤ 16
        ·rw [if_pos c89] at H
         have c89b0 : decide (x12_3 ≤ 16) = true := decide_eq_true c89
         clear c89
         replace H := Option.bind_eq_some_iff.mp H
         obtain ⟨⟨t185, t188, t189⟩, A900, H⟩ := H
         replace H : ((gimballaw27_num.f t188).bind fun t190 => (if t190 = 0 then (if (t185.length : Int) > 0 then (some false) else (gimballaw27_RateTables.l2 k3 (wrap64 (x12_3 + 1)) t189)) else (some false))) = some r := H
         have A90 := Aside0.mk A900
         clear A900
         replace H := Option.bind_eq_some_iff.mp H
         obtain ⟨t190, A910, H⟩ := H
         replace H : (if t190 = 0 then (if (t185.length : Int) > 0 then (some false) else (gimballaw27_RateTables.l2 k3 (wrap64 (x12_3 + 1)) t189)) else (some false)) = some r := H
         have A91 := Aside0.mk A910
         clear A910
         by_cases c92 : t190 = 0
         ·rw [if_pos c92] at H
          have c92b0 : (t190 == 0) = true := beq_iff_eq.mpr c92
          have c92b1 : (t190 != 0) = false := bne_eq_false_iff_eq.mpr c92
          clear c92
          by_cases c93 : (t185.length : Int) > 0
          ·rw [if_pos c93] at H
           have c93b0 : decide (0 < (t185.length : Int)) = true := decide_eq_true c93
           have c93b1 : decide (0 < t185.length) = true := decide_eq_true (by omega)
           clear c93
           exact absurd ((Option.some.inj H).trans hrt_.out) (by simp)
          ·rw [if_neg c93] at H
           have c93b0 : decide (0 < (t185.length : Int)) = false := decide_eq_false c93
           have c93b1 : decide (0 < t185.length) = false := decide_eq_false (by omega)
           clear c93
           have H' := Aside0.mk H
           clear H
           go_wp2_with (first | (go_at_call 11; (with_reducible refine (rate_Table_Take.calls g140 x141000_3 x12_3 5 t185 t188 t189 w _ ?side1 ?side2 A90.out).mono ?_); (case side1 => repeat (first | (with_reducible first | exact HI140.out | apply IsS65.alloc | apply IsS65.drewN | apply IsS65.drew | apply IsS65.set_0) | exact HI140.out)); (case side2 => repeat (first | (with_reducible first | exact HB.out | apply below_alloc | apply pw_below_drewN | apply below_drew1 | refine below_set ?_ (IsS65.ge HI140.out)) | exact HB.out)); rintro e w94 ⟨v186, rfl, ho0, hi, hb, hk⟩; have HO187 := Aside0.mk (Kd.R_lower ho0 (below_size (by repeat (first | (with_reducible first | exact HB.out | apply below_alloc | apply pw_below_drewN | apply below_drew1 | refine below_set ?_ (IsS65.ge HI140.out)) | exact HB.out)))); replace HB := Aside0.mk (hb); replace HI140 := Aside0.mk (hi); (try clear hb); (try clear hb2); (try clear hk); (try clear hi); (try clear ho0)) | (go_at_call 8; (with_reducible refine (gimballaw27_num.calls t188 t190 _ A91.out).mono ?_); rintro e w' ⟨rfl, ⟨nd, rfl⟩⟩; (try first | exact ⟨rfl, _, World.drewN_drewN _ _ _⟩ | exact ⟨rfl, _, Eq.trans (World.drewN_drewN _ _ _) (congrArg (World.drewN _) (Nat.add_assoc _ _ _))⟩); obtain ⟨Ao95, co95, eo95⟩ := Kd.R_slice HO187.out; subst eo95))
           repeat (go_quiet (first | (go_at_call 11; (with_reducible refine (rate_Table_Take.calls g140 x141000_3 x12_3 5 t185 t188 t189 w _ ?side1 ?side2 A90.out).mono ?_); (case side1 => repeat (first | (with_reducible first | exact HI140.out | apply IsS65.alloc | apply IsS65.drewN | apply IsS65.drew | apply IsS65.set_0) | exact HI140.out)); (case side2 => repeat (first | (with_reducible first | exact HB.out | apply below_alloc | apply pw_below_drewN | apply below_drew1 | refine below_set ?_ (IsS65.ge HI140.out)) | exact HB.out)); rintro e w94 ⟨v186, rfl, ho0, hi, hb, hk⟩; have HO187 := Aside0.mk (Kd.R_lower ho0 (below_size (by repeat (first | (with_reducible first | exact HB.out | apply below_alloc | apply pw_below_drewN | apply below_drew1 | refine below_set ?_ (IsS65.ge HI140.out)) | exact HB.out)))); replace HB := Aside0.mk (hb); replace HI140 := Aside0.mk (hi); (try clear hb); (try clear hb2); (try clear hk); (try clear hi); (try clear ho0)) | (go_at_call 8; (with_reducible refine (gimballaw27_num.calls t188 t190 _ A91.out).mono ?_); rintro e w' ⟨rfl, ⟨nd, rfl⟩⟩; (try first | exact ⟨rfl, _, World.drewN_drewN _ _ _⟩ | exact ⟨rfl, _, Eq.trans (World.drewN_drewN _ _ _) (congrArg (World.drewN _) (Nat.add_assoc _ _ _))⟩); obtain ⟨Ao95, co95, eo95⟩ := Kd.R_slice HO187.out; subst eo95)); try go_wp2_with (first | (go_at_call 11; (with_reducible refine (rate_Table_Take.calls g140 x141000_3 x12_3 5 t185 t188 t189 w _ ?side1 ?side2 A90.out).mono ?_); (case side1 => repeat (first | (with_reducible first | exact HI140.out | apply IsS65.alloc | apply IsS65.drewN | apply IsS65.drew | apply IsS65.set_0) | exact HI140.out)); (case side2 => repeat (first | (with_reducible first | exact HB.out | apply below_alloc | apply pw_below_drewN | apply below_drew1 | refine below_set ?_ (IsS65.ge HI140.out)) | exact HB.out)); rintro e w94 ⟨v186, rfl, ho0, hi, hb, hk⟩; have HO187 := Aside0.mk (Kd.R_lower ho0 (below_size (by repeat (first | (with_reducible first | exact HB.out | apply below_alloc | apply pw_below_drewN | apply below_drew1 | refine below_set ?_ (IsS65.ge HI140.out)) | exact HB.out)))); replace HB := Aside0.mk (hb); replace HI140 := Aside0.mk (hi); (try clear hb); (try clear hb2); (try clear hk); (try clear hi); (try clear ho0)) | (go_at_call 8; (with_reducible refine (gimballaw27_num.calls t188 t190 _ A91.out).mono ?_); rintro e w' ⟨rfl, ⟨nd, rfl⟩⟩; (try first | exact ⟨rfl, _, World.drewN_drewN _ _ _⟩ | exact ⟨rfl, _, Eq.trans (World.drewN_drewN _ _ _) (congrArg (World.drewN _) (Nat.add_assoc _ _ _))⟩); obtain ⟨Ao95, co95, eo95⟩ := Kd.R_slice HO187.out; subst eo95)))
           refine Cu.handed k3 (by have := HK1.out; have := HJ3.out; have := HK3.out; omega) (by assumption) ?_ (by kernel_rfl) (by kernel_rfl)
           try dsimp only [Cu.pick, Cu.rep, Cu.nth]
           exact ⟨(wrap64 (x12_3 + 1)), (t189), Sq.e, H', ⟨by have := HK1.out; have := HJ3.out; have := HK3.out; omega⟩, ⟨by repeat (first | (with_reducible first | exact HI140.out | apply IsS65.alloc | apply IsS65.drewN | apply IsS65.drew | apply IsS65.set_0) | exact HI140.out)⟩, ⟨by repeat (first | (with_reducible first | exact HB.out | apply below_alloc | apply pw_below_drewN | apply below_drew1 | refine below_set ?_ (IsS65.ge HI140.out)) | exact HB.out)⟩⟩
         ·rw [if_neg c92] at H
          have c92b0 : (t190 == 0) = false := beq_eq_false_iff_ne.mpr c92
          have c92b1 : (t190 != 0) = true := bne_iff_ne.mpr c92
          exact absurd ((Option.some.inj H).trans hrt_.out) (by simp)
        ·rw [if_neg c89] at H
         have c89b0 : decide (x12_3 ≤ 16) = false := decide_eq_false c89
         clear c89
         replace H := Option.bind_eq_some_iff.mp H
         obtain ⟨⟨t180, t183⟩, A960, H⟩ := H
         replace H : (if (t180.length : Int) = 0 then ((gimballaw27_wakes.f k3).bind fun t184 => (some t184)) else (some false)) = some r := H
         have A96 := Aside0.mk A960
         clear A960
         by_cases c97 : (t180.length : Int) = 0
         ·rw [if_pos c97] at H
          have c97b0 : ((t180.length : Int) == 0) = true := beq_iff_eq.mpr c97
          have c97b1 : ((t180.length : Int) != 0) = false := bne_eq_false_iff_eq.mpr c97
          clear c97
          replace H := Option.bind_eq_some_iff.mp H
          obtain ⟨t184, A980, H⟩ := H
          replace H : (some t184) = some r := H
          have A98 := Aside0.mk A980
          clear A980
          obtain rfl := Option.some.inj H
          go_wp2_with (first | (go_at_call 16; (with_reducible refine (rate_Table_All.calls g140 x141000_3 t180 t183 w _ ?side1 ?side2 A96.out).mono ?_); (case side1 => repeat (first | (with_reducible first | exact HI140.out | apply IsS65.alloc | apply IsS65.drewN | apply IsS65.drew | apply IsS65.set_0) | exact HI140.out)); (case side2 => repeat (first | (with_reducible first | exact HB.out | apply below_alloc | apply pw_below_drewN | apply below_drew1 | refine below_set ?_ (IsS65.ge HI140.out)) | exact HB.out)); rintro e w99 ⟨v181, rfl, ho0, hi, hb, hk⟩; have HO182 := Aside0.mk (Kd.R_lower ho0 (below_size (by repeat (first | (with_reducible first | exact HB.out | apply below_alloc | apply pw_below_drewN | apply below_drew1 | refine below_set ?_ (IsS65.ge HI140.out)) | exact HB.out)))); replace HB := Aside0.mk (hb); replace HI140 := Aside0.mk (hi); (try clear hb); (try clear hb2); (try clear hk); (try clear hi); (try clear ho0); obtain ⟨Ao100, co100, eo100⟩ := Kd.R_slice HO182.out; subst eo100) | (go_at_call 14; (with_reducible refine (gimballaw27_wakes.calls k3  t184 _ A98.out).mono ?_); rintro e w101 ⟨rfl, hb⟩; have n0_ := Aside0.mk (Kd.R_below (Sq.rR HO182.out) hb); have n1_ := Aside0.mk (IsS65.below (by repeat (first | (with_reducible first | exact HI140.out | apply IsS65.alloc | apply IsS65.drewN | apply IsS65.drew | apply IsS65.set_0) | exact HI140.out)) hb); have n2_ := Aside0.mk (below_step (by repeat (first | (with_reducible first | exact HB.out | apply below_alloc | apply pw_below_drewN | apply below_drew1 | refine below_set ?_ (IsS65.ge HI140.out)) | exact HB.out)) hb); clear HO182; clear HI140; clear HB; have HO182 := n0_; have HI140 := n1_; have HB := n2_; clear n0_ n1_ n2_; (try clear hb); (try clear hb2); (try clear hk); (try clear hi)))
          repeat (go_quiet (first | (go_at_call 16; (with_reducible refine (rate_Table_All.calls g140 x141000_3 t180 t183 w _ ?side1 ?side2 A96.out).mono ?_); (case side1 => repeat (first | (with_reducible first | exact HI140.out | apply IsS65.alloc | apply IsS65.drewN | apply IsS65.drew | apply IsS65.set_0) | exact HI140.out)); (case side2 => repeat (first | (with_reducible first | exact HB.out | apply below_alloc | apply pw_below_drewN | apply below_drew1 | refine below_set ?_ (IsS65.ge HI140.out)) | exact HB.out)); rintro e w99 ⟨v181, rfl, ho0, hi, hb, hk⟩; have HO182 := Aside0.mk (Kd.R_lower ho0 (below_size (by repeat (first | (with_reducible first | exact HB.out | apply below_alloc | apply pw_below_drewN | apply below_drew1 | refine below_set ?_ (IsS65.ge HI140.out)) | exact HB.out)))); replace HB := Aside0.mk (hb); replace HI140 := Aside0.mk (hi); (try clear hb); (try clear hb2); (try clear hk); (try clear hi); (try clear ho0); obtain ⟨Ao100, co100, eo100⟩ := Kd.R_slice HO182.out; subst eo100) | (go_at_call 14; (with_reducible refine (gimballaw27_wakes.calls k3  t184 _ A98.out).mono ?_); rintro e w101 ⟨rfl, hb⟩; have n0_ := Aside0.mk (Kd.R_below (Sq.rR HO182.out) hb); have n1_ := Aside0.mk (IsS65.below (by repeat (first | (with_reducible first | exact HI140.out | apply IsS65.alloc | apply IsS65.drewN | apply IsS65.drew | apply IsS65.set_0) | exact HI140.out)) hb); have n2_ := Aside0.mk (below_step (by repeat (first | (with_reducible first | exact HB.out | apply below_alloc | apply pw_below_drewN | apply below_drew1 | refine below_set ?_ (IsS65.ge HI140.out)) | exact HB.out)) hb); clear HO182; clear HI140; clear HB; have HO182 := n0_; have HI140 := n1_; have HB := n2_; clear n0_ n1_ n2_; (try clear hb); (try clear hb2); (try clear hk); (try clear hi))); try go_wp2_with (first | (go_at_call 16; (with_reducible refine (rate_Table_All.calls g140 x141000_3 t180 t183 w _ ?side1 ?side2 A96.out).mono ?_); (case side1 => repeat (first | (with_reducible first | exact HI140.out | apply IsS65.alloc | apply IsS65.drewN | apply IsS65.drew | apply IsS65.set_0) | exact HI140.out)); (case side2 => repeat (first | (with_reducible first | exact HB.out | apply below_alloc | apply pw_below_drewN | apply below_drew1 | refine below_set ?_ (IsS65.ge HI140.out)) | exact HB.out)); rintro e w99 ⟨v181, rfl, ho0, hi, hb, hk⟩; have HO182 := Aside0.mk (Kd.R_lower ho0 (below_size (by repeat (first | (with_reducible first | exact HB.out | apply below_alloc | apply pw_below_drewN | apply below_drew1 | refine below_set ?_ (IsS65.ge HI140.out)) | exact HB.out)))); replace HB := Aside0.mk (hb); replace HI140 := Aside0.mk (hi); (try clear hb); (try clear hb2); (try clear hk); (try clear hi); (try clear ho0); obtain ⟨Ao100, co100, eo100⟩ := Kd.R_slice HO182.out; subst eo100) | (go_at_call 14; (with_reducible refine (gimballaw27_wakes.calls k3  t184 _ A98.out).mono ?_); rintro e w101 ⟨rfl, hb⟩; have n0_ := Aside0.mk (Kd.R_below (Sq.rR HO182.out) hb); have n1_ := Aside0.mk (IsS65.below (by repeat (first | (with_reducible first | exact HI140.out | apply IsS65.alloc | apply IsS65.drewN | apply IsS65.drew | apply IsS65.set_0) | exact HI140.out)) hb); have n2_ := Aside0.mk (below_step (by repeat (first | (with_reducible first | exact HB.out | apply below_alloc | apply pw_below_drewN | apply below_drew1 | refine below_set ?_ (IsS65.ge HI140.out)) | exact HB.out)) hb); clear HO182; clear HI140; clear HB; have HO182 := n0_; have HI140 := n1_; have HB := n2_; clear n0_ n1_ n2_; (try clear hb); (try clear hb2); (try clear hk); (try clear hi))))
          go_ret
          exact ⟨by first | rfl | (simp [errW_none, errW_some] <;> rfl) | (simp [*, errW_none, errW_some] <;> rfl), by repeat (first | (with_reducible first | exact HB.out | apply below_alloc | apply pw_below_drewN | apply below_drew1 | refine below_set ?_ (IsS65.ge HI140.out)) | exact HB.out)⟩
         ·rw [if_neg c97] at H
          have c97b0 : ((t180.length : Int) == 0) = false := beq_eq_false_iff_ne.mpr c97
          have c97b1 : ((t180.length : Int) != 0) = true := bne_iff_ne.mpr c97
          have c97b2 : ¬ (t180 = []) := fun h_ => c97 (by rw [h_]; rfl)
          exact absurd ((Option.some.inj H).trans hrt_.out) (by simp)

end Go.Proofs.Ytfdfnmlbmijdjaa.PRateTables
