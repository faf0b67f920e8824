import Derived.Test.YtbleapgklbohcaaCut
import Derived.Test.YtbleapgklbohcaaHo
import Derived.Test.YtbleapgklbohcaaPLogRowsx0
import Derived.Test.YtbleapgklbohcaaPLogRowsx1
import Derived.Test.YtbleapgklbohcaaPLogRowsx2
namespace Go.Proofs.Ytbleapgklbohcaa.PLogRows
open Go.RowKit Go.Proofs.YtbleapgklbohcaaW.PrintWords Go.Proofs.YtbleapgklbohcaaW.PrintLast Go.Proofs.YtbleapgklbohcaaW.PrintMore
attribute [local go_sem] max2_int min2_int max_two min_two max_three min_three max_four min_four   -- for this text's walks alone
set_option linter.unusedVariables false
set_option linter.unusedSimpArgs false

/-! ### gimballaw30_LogRows: function 5 -/
mutual
def gimballaw30_LogRows.l0 : Nat → List (S30) → Int → Option (Bool)
 | 0, _, _ => none
 | k + 1, x0, x3 => if x3 < (x0.length : Int) then (gimballaw30_LogRows.j1 k x0 x3 (decide (x3 < 4))) else (gimballaw30_LogRows.j1 k x0 x3 false)
def gimballaw30_LogRows.j1 : Nat → List (S30) → Int → Bool → Option (Bool)
 | 0, _, _, _ => none
 | k + 1, x0, x3, x28 => if x28 = true then (if 0 ≤ x3 then (if x3 < (x0.length : Int) then ((gimballaw30_heavy.f ((rd_T30 x0 x3).f0.f0) ((rd_T30 x0 x3).f0.f1) ((rd_T30 x0 x3).f1) ((rd_T30 x0 x3).f2) ((rd_T30 x0 x3).f3) ((rd_T30 x0 x3).f4) ((rd_T30 x0 x3).f5)).bind fun t137 => (if t137 = true then (some true) else (if 256 ≤ 70368744177664 then (gimballaw30_LogRows.l1 k x0 x3 (List.replicate 256 0) 0 ((rd_T30 x0 x3).f0.f0) ((rd_T30 x0 x3).f0.f1) ((rd_T30 x0 x3).f1) ((rd_T30 x0 x3).f2) ((rd_T30 x0 x3).f3) ((rd_T30 x0 x3).f4) ((rd_T30 x0 x3).f5)) else (none)))) else (none)) else (none)) else ((gimballaw30_wakes.f).bind fun t134 => (some t134))
def gimballaw30_LogRows.l1 : Nat → List (S30) → Int → List Int → Int → Int → List Int → Int → Int → List Int → List (S25) → Int → Option (Bool)
 | 0, _, _, _, _, _, _, _, _, _, _, _ => none
 | k + 1, x0, x3, x5, x6, x137000, x137001, x137002, x137003, x137004, x137005, x137006 => if x6 < (x5.length : Int) then (if 0 ≤ x6 then (gimballaw30_LogRows.l1 k x0 x3 (x5.set (x6 : Int).toNat 4294967295) (wrap64 (x6 + 1)) x137000 x137001 x137002 x137003 x137004 x137005 x137006) else (none)) else (gimballaw30_LogRows.l2 k x0 x3 x5 1 ([] : List (S25)) 1 0 x137000 x137001 x137002 x137003 x137004 x137005 x137006)
def gimballaw30_LogRows.l2 : Nat → List (S30) → Int → List Int → Int → List (S25) → Int → Int → Int → List Int → Int → Int → List Int → List (S25) → Int → Option (Bool)
 | 0, _, _, _, _, _, _, _, _, _, _, _, _, _, _ => none
 | k + 1, x0, x3, x5, x7, x8, x9, x10, x137000, x137001, x137002, x137003, x137004, x137005, x137006 => if x10 < (x137005.length : Int) then (if 0 ≤ x10 then ((log_Pack.f k ((rd_T25 x137005 x10).f0) ((rd_T25 x137005 x10).f1)).bind fun bt143 => ((gimballaw30_num.f bt143.2).bind fun t147 => (if t147 = 0 then (if (wrap64 (x7 + (bt143.1.length : Int))) > 256 then (gimballaw30_LogRows.l2 k x0 x3 x5 x7 x8 x9 (wrap64 (x10 + 1)) x137000 x137001 x137002 x137003 x137004 x137005 x137006) else (if 0 ≤ x7 then (if x7 ≤ (x5.length : Int) then (if x8.length < 4398046511104 then (gimballaw30_LogRows.l2 k x0 x3 (copyIn x5 (x7 : Int).toNat bt143.1) (wrap64 (x7 + (bt143.1.length : Int))) (x8 ++ [(⟨(rd_T25 x137005 x10).f0, (rd_T25 x137005 x10).f1⟩ : S25)]) x7 (wrap64 (x10 + 1)) x137000 x137001 x137002 x137003 x137004 x137005 x137006) else (none)) else (none)) else (none))) else (gimballaw30_LogRows.l2 k x0 x3 x5 x7 x8 x9 (wrap64 (x10 + 1)) x137000 x137001 x137002 x137003 x137004 x137005 x137006)))) else (none)) else ((log_Scan.f x5).bind fun bt157 => ((gimballaw30_num.f bt157.2.2).bind fun t162 => (if t162 = 0 then (if bt157.2.1 = x7 then ((gimbalref0_EqEntries.f k bt157.1 x8).bind fun t163 => (gimballaw30_LogRows.j4 k x0 x3 x5 x7 x8 x9 (!t163) x137000 x137001 x137002 x137003 x137004 x137005 x137006)) else (gimballaw30_LogRows.j4 k x0 x3 x5 x7 x8 x9 true x137000 x137001 x137002 x137003 x137004 x137005 x137006)) else (gimballaw30_LogRows.j4 k x0 x3 x5 x7 x8 x9 true x137000 x137001 x137002 x137003 x137004 x137005 x137006))))
def gimballaw30_LogRows.j4 : Nat → List (S30) → Int → List Int → Int → List (S25) → Int → Bool → Int → List Int → Int → Int → List Int → List (S25) → Int → Option (Bool)
 | 0, _, _, _, _, _, _, _, _, _, _, _, _, _, _ => none
 | k + 1, x0, x3, x5, x7, x8, x9, x110, x137000, x137001, x137002, x137003, x137004, x137005, x137006 => if x110 = true then (some false) else (if (x8.length : Int) = 0 then (gimballaw30_LogRows.l0 k x0 (wrap64 (x3 + 1))) else ((gimbalref0_CopyWords.f k x5).bind fun t164 => ((gimballaw0_Within.f x137006 (wrap64 (x7 - x9))).bind fun t167 => (gimballaw30_LogRows.l3 k x0 x3 x7 x8 t164 (wrap64 (x9 + t167))))))
def gimballaw30_LogRows.l3 : Nat → List (S30) → Int → Int → List (S25) → List Int → Int → Option (Bool)
 | 0, _, _, _, _, _, _ => none
 | k + 1, x0, x3, x7, x8, x16, x17 => if x17 < x7 then (if 0 ≤ x17 then (if x17 < (x16.length : Int) then (gimballaw30_LogRows.l3 k x0 x3 x7 x8 (x16.set (x17 : Int).toNat 4294967295) (wrap64 (x17 + 1))) else (none)) else (none)) else ((log_Scan.f x16).bind fun bt169 => ((gimballaw30_num.f bt169.2.2).bind fun t174 => (if t174 = 0 then (if 0 ≤ (wrap64 ((x8.length : Int) - 1)) then (if (wrap64 ((x8.length : Int) - 1)) ≤ (x8.length : Int) then ((gimbalref0_EqEntries.f k bt169.1 (x8.take ((wrap64 ((x8.length : Int) - 1)) : Int).toNat)).bind fun t179 => (if t179 = true then (gimballaw30_LogRows.l0 k x0 (wrap64 (x3 + 1))) else (some false))) else (none)) else (none)) else (some false))))
end
def gimballaw30_LogRows.f (k : Nat) (l0 : List (S30)) : Option (Bool) := gimballaw30_LogRows.l0 k l0 0
theorem gimballaw30_LogRows.mono_l : ∀ k, (∀ y0 y1, LeO (gimballaw30_LogRows.l0 k y0 y1) (gimballaw30_LogRows.l0 (k + 1) y0 y1)) ∧ (∀ y0 y1 y2, LeO (gimballaw30_LogRows.j1 k y0 y1 y2) (gimballaw30_LogRows.j1 (k + 1) y0 y1 y2)) ∧ (∀ y0 y1 y2 y3 y4 y5 y6 y7 y8 y9 y10, LeO (gimballaw30_LogRows.l1 k y0 y1 y2 y3 y4 y5 y6 y7 y8 y9 y10) (gimballaw30_LogRows.l1 (k + 1) y0 y1 y2 y3 y4 y5 y6 y7 y8 y9 y10)) ∧ (∀ y0 y1 y2 y3 y4 y5 y6 y7 y8 y9 y10 y11 y12 y13, LeO (gimballaw30_LogRows.l2 k y0 y1 y2 y3 y4 y5 y6 y7 y8 y9 y10 y11 y12 y13) (gimballaw30_LogRows.l2 (k + 1) y0 y1 y2 y3 y4 y5 y6 y7 y8 y9 y10 y11 y12 y13)) ∧ (∀ y0 y1 y2 y3 y4 y5 y6 y7 y8 y9 y10 y11 y12 y13, LeO (gimballaw30_LogRows.j4 k y0 y1 y2 y3 y4 y5 y6 y7 y8 y9 y10 y11 y12 y13) (gimballaw30_LogRows.j4 (k + 1) y0 y1 y2 y3 y4 y5 y6 y7 y8 y9 y10 y11 y12 y13)) ∧ (∀ y0 y1 y2 y3 y4 y5, LeO (gimballaw30_LogRows.l3 k y0 y1 y2 y3 y4 y5) (gimballaw30_LogRows.l3 (k + 1) y0 y1 y2 y3 y4 y5))
 | 0 => ⟨fun _ _ r h => by simp [gimballaw30_LogRows.l0] at h, fun _ _ _ r h => by simp [gimballaw30_LogRows.j1] at h, fun _ _ _ _ _ _ _ _ _ _ _ r h => by simp [gimballaw30_LogRows.l1] at h, fun _ _ _ _ _ _ _ _ _ _ _ _ _ _ r h => by simp [gimballaw30_LogRows.l2] at h, fun _ _ _ _ _ _ _ _ _ _ _ _ _ _ r h => by simp [gimballaw30_LogRows.j4] at h, fun _ _ _ _ _ _ r h => by simp [gimballaw30_LogRows.l3] at h⟩
 | k + 1 => by
  obtain ⟨ih0, ih1, ih2, ih3, ih4, ih5⟩ := gimballaw30_LogRows.mono_l k
  refine ⟨?_, ?_, ?_, ?_, ?_, ?_⟩
  ·intro y0 y1
   unfold gimballaw30_LogRows.l0
   repeat' first
   | (with_reducible exact ih0 _ _)
   | (with_reducible exact ih1 _ _ _)
   | (with_reducible exact ih2 _ _ _ _ _ _ _ _ _ _ _)
   | (with_reducible exact ih3 _ _ _ _ _ _ _ _ _ _ _ _ _ _)
   | (with_reducible exact ih4 _ _ _ _ _ _ _ _ _ _ _ _ _ _)
   | (with_reducible exact ih5 _ _ _ _ _ _)
   | (with_reducible exact gimbalref0_CopyWords.mono _ _)
   | (with_reducible exact gimbalref0_EqEntries.mono _ _ _)
   | (with_reducible exact log_Pack.mono _ _ _)
   | (with_reducible exact LeO.refl _)
   | (with_reducible exact LeO.none _)
   | (with_reducible refine LeO.ite ?_ ?_)
   | (with_reducible refine LeO.bind ?_ (fun _ => ?_))
   | exact ih0 _ _
   | exact ih1 _ _ _
   | exact ih2 _ _ _ _ _ _ _ _ _ _ _
   | exact ih3 _ _ _ _ _ _ _ _ _ _ _ _ _ _
   | exact ih4 _ _ _ _ _ _ _ _ _ _ _ _ _ _
   | exact ih5 _ _ _ _ _ _
   | exact gimbalref0_CopyWords.mono _ _
   | exact gimbalref0_EqEntries.mono _ _ _
   | exact log_Pack.mono _ _ _
   | exact LeO.none _
   | refine LeO.ite ?_ ?_
   | refine LeO.bind ?_ (fun _ => ?_)
  ·intro y0 y1 y2
   unfold gimballaw30_LogRows.j1
   repeat' first
   | (with_reducible exact ih0 _ _)
   | (with_reducible exact ih1 _ _ _)
   | (with_reducible exact ih2 _ _ _ _ _ _ _ _ _ _ _)
   | (with_reducible exact ih3 _ _ _ _ _ _ _ _ _ _ _ _ _ _)
   | (with_reducible exact ih4 _ _ _ _ _ _ _ _ _ _ _ _ _ _)
   | (with_reducible exact ih5 _ _ _ _ _ _)
   | (with_reducible exact gimbalref0_CopyWords.mono _ _)
   | (with_reducible exact gimbalref0_EqEntries.mono _ _ _)
   | (with_reducible exact log_Pack.mono _ _ _)
   | (with_reducible exact LeO.refl _)
   | (with_reducible exact LeO.none _)
   | (with_reducible refine LeO.ite ?_ ?_)
   | (with_reducible refine LeO.bind ?_ (fun _ => ?_))
   | exact ih0 _ _
   | exact ih1 _ _ _
   | exact ih2 _ _ _ _ _ _ _ _ _ _ _
   | exact ih3 _ _ _ _ _ _ _ _ _ _ _ _ _ _
   | exact ih4 _ _ _ _ _ _ _ _ _ _ _ _ _ _
   | exact ih5 _ _ _ _ _ _
   | exact gimbalref0_CopyWords.mono _ _
   | exact gimbalref0_EqEntries.mono _ _ _
   | exact log_Pack.mono _ _ _
   | exact LeO.none _
   | refine LeO.ite ?_ ?_
   | refine LeO.bind ?_ (fun _ => ?_)
  ·intro y0 y1 y2 y3 y4 y5 y6 y7 y8 y9 y10
   unfold gimballaw30_LogRows.l1
   repeat' first
   | (with_reducible exact ih0 _ _)
   | (with_reducible exact ih1 _ _ _)
   | (with_reducible exact ih2 _ _ _ _ _ _ _ _ _ _ _)
   | (with_reducible exact ih3 _ _ _ _ _ _ _ _ _ _ _ _ _ _)
   | (with_reducible exact ih4 _ _ _ _ _ _ _ _ _ _ _ _ _ _)
   | (with_reducible exact ih5 _ _ _ _ _ _)
   | (with_reducible exact gimbalref0_CopyWords.mono _ _)
   | (with_reducible exact gimbalref0_EqEntries.mono _ _ _)
   | (with_reducible exact log_Pack.mono _ _ _)
   | (with_reducible exact LeO.refl _)
   | (with_reducible exact LeO.none _)
   | (with_reducible refine LeO.ite ?_ ?_)
   | (with_reducible refine LeO.bind ?_ (fun _ => ?_))
   | exact ih0 _ _
   | exact ih1 _ _ _
   | exact ih2 _ _ _ _ _ _ _ _ _ _ _
   | exact ih3 _ _ _ _ _ _ _ _ _ _ _ _ _ _
   | exact ih4 _ _ _ _ _ _ _ _ _ _ _ _ _ _
   | exact ih5 _ _ _ _ _ _
   | exact gimbalref0_CopyWords.mono _ _
   | exact gimbalref0_EqEntries.mono _ _ _
   | exact log_Pack.mono _ _ _
   | exact LeO.none _
   | refine LeO.ite ?_ ?_
   | refine LeO.bind ?_ (fun _ => ?_)
  ·intro y0 y1 y2 y3 y4 y5 y6 y7 y8 y9 y10 y11 y12 y13
   unfold gimballaw30_LogRows.l2
   repeat' first
   | (with_reducible exact ih0 _ _)
   | (with_reducible exact ih1 _ _ _)
   | (with_reducible exact ih2 _ _ _ _ _ _ _ _ _ _ _)
   | (with_reducible exact ih3 _ _ _ _ _ _ _ _ _ _ _ _ _ _)
   | (with_reducible exact ih4 _ _ _ _ _ _ _ _ _ _ _ _ _ _)
   | (with_reducible exact ih5 _ _ _ _ _ _)
   | (with_reducible exact gimbalref0_CopyWords.mono _ _)
   | (with_reducible exact gimbalref0_EqEntries.mono _ _ _)
   | (with_reducible exact log_Pack.mono _ _ _)
   | (with_reducible exact LeO.refl _)
   | (with_reducible exact LeO.none _)
   | (with_reducible refine LeO.ite ?_ ?_)
   | (with_reducible refine LeO.bind ?_ (fun _ => ?_))
   | exact ih0 _ _
   | exact ih1 _ _ _
   | exact ih2 _ _ _ _ _ _ _ _ _ _ _
   | exact ih3 _ _ _ _ _ _ _ _ _ _ _ _ _ _
   | exact ih4 _ _ _ _ _ _ _ _ _ _ _ _ _ _
   | exact ih5 _ _ _ _ _ _
   | exact gimbalref0_CopyWords.mono _ _
   | exact gimbalref0_EqEntries.mono _ _ _
   | exact log_Pack.mono _ _ _
   | exact LeO.none _
   | refine LeO.ite ?_ ?_
   | refine LeO.bind ?_ (fun _ => ?_)
  ·intro y0 y1 y2 y3 y4 y5 y6 y7 y8 y9 y10 y11 y12 y13
   unfold gimballaw30_LogRows.j4
   repeat' first
   | (with_reducible exact ih0 _ _)
   | (with_reducible exact ih1 _ _ _)
   | (with_reducible exact ih2 _ _ _ _ _ _ _ _ _ _ _)
   | (with_reducible exact ih3 _ _ _ _ _ _ _ _ _ _ _ _ _ _)
   | (with_reducible exact ih4 _ _ _ _ _ _ _ _ _ _ _ _ _ _)
   | (with_reducible exact ih5 _ _ _ _ _ _)
   | (with_reducible exact gimbalref0_CopyWords.mono _ _)
   | (with_reducible exact gimbalref0_EqEntries.mono _ _ _)
   | (with_reducible exact log_Pack.mono _ _ _)
   | (with_reducible exact LeO.refl _)
   | (with_reducible exact LeO.none _)
   | (with_reducible refine LeO.ite ?_ ?_)
   | (with_reducible refine LeO.bind ?_ (fun _ => ?_))
   | exact ih0 _ _
   | exact ih1 _ _ _
   | exact ih2 _ _ _ _ _ _ _ _ _ _ _
   | exact ih3 _ _ _ _ _ _ _ _ _ _ _ _ _ _
   | exact ih4 _ _ _ _ _ _ _ _ _ _ _ _ _ _
   | exact ih5 _ _ _ _ _ _
   | exact gimbalref0_CopyWords.mono _ _
   | exact gimbalref0_EqEntries.mono _ _ _
   | exact log_Pack.mono _ _ _
   | exact LeO.none _
   | refine LeO.ite ?_ ?_
   | refine LeO.bind ?_ (fun _ => ?_)
  ·intro y0 y1 y2 y3 y4 y5
   unfold gimballaw30_LogRows.l3
   repeat' first
   | (with_reducible exact ih0 _ _)
   | (with_reducible exact ih1 _ _ _)
   | (with_reducible exact ih2 _ _ _ _ _ _ _ _ _ _ _)
   | (with_reducible exact ih3 _ _ _ _ _ _ _ _ _ _ _ _ _ _)
   | (with_reducible exact ih4 _ _ _ _ _ _ _ _ _ _ _ _ _ _)
   | (with_reducible exact ih5 _ _ _ _ _ _)
   | (with_reducible exact gimbalref0_CopyWords.mono _ _)
   | (with_reducible exact gimbalref0_EqEntries.mono _ _ _)
   | (with_reducible exact log_Pack.mono _ _ _)
   | (with_reducible exact LeO.refl _)
   | (with_reducible exact LeO.none _)
   | (with_reducible refine LeO.ite ?_ ?_)
   | (with_reducible refine LeO.bind ?_ (fun _ => ?_))
   | exact ih0 _ _
   | exact ih1 _ _ _
   | exact ih2 _ _ _ _ _ _ _ _ _ _ _
   | exact ih3 _ _ _ _ _ _ _ _ _ _ _ _ _ _
   | exact ih4 _ _ _ _ _ _ _ _ _ _ _ _ _ _
   | exact ih5 _ _ _ _ _ _
   | exact gimbalref0_CopyWords.mono _ _
   | exact gimbalref0_EqEntries.mono _ _ _
   | exact log_Pack.mono _ _ _
   | exact LeO.none _
   | refine LeO.ite ?_ ?_
   | refine LeO.bind ?_ (fun _ => ?_)
theorem gimballaw30_LogRows.mono : ∀ a0 k, LeO (gimballaw30_LogRows.f k a0) (gimballaw30_LogRows.f (k + 1) a0) := by
 intro a0 k
 obtain ⟨ih0, ih1, ih2, ih3, ih4, ih5⟩ := gimballaw30_LogRows.mono_l k
 unfold gimballaw30_LogRows.f
 repeat' first
   | (with_reducible exact ih0 _ _)
   | (with_reducible exact ih1 _ _ _)
   | (with_reducible exact ih2 _ _ _ _ _ _ _ _ _ _ _)
   | (with_reducible exact ih3 _ _ _ _ _ _ _ _ _ _ _ _ _ _)
   | (with_reducible exact ih4 _ _ _ _ _ _ _ _ _ _ _ _ _ _)
   | (with_reducible exact ih5 _ _ _ _ _ _)
   | (with_reducible exact gimbalref0_CopyWords.mono _ _)
   | (with_reducible exact gimbalref0_EqEntries.mono _ _ _)
   | (with_reducible exact log_Pack.mono _ _ _)
   | (with_reducible exact LeO.refl _)
   | (with_reducible exact LeO.none _)
   | (with_reducible refine LeO.ite ?_ ?_)
   | (with_reducible refine LeO.bind ?_ (fun _ => ?_))
   | exact ih0 _ _
   | exact ih1 _ _ _
   | exact ih2 _ _ _ _ _ _ _ _ _ _ _
   | exact ih3 _ _ _ _ _ _ _ _ _ _ _ _ _ _
   | exact ih4 _ _ _ _ _ _ _ _ _ _ _ _ _ _
   | exact ih5 _ _ _ _ _ _
   | exact gimbalref0_CopyWords.mono _ _
   | exact gimbalref0_EqEntries.mono _ _ _
   | exact log_Pack.mono _ _ _
   | exact LeO.none _
   | refine LeO.ite ?_ ?_
   | refine LeO.bind ?_ (fun _ => ?_)
set_option maxHeartbeats 8000000 in
set_option maxRecDepth 100000 in
theorem gimballaw30_LogRows.calls (k : Nat) (A0 : Option Addr) (c0 : Nat) (l0 : List (S30)) (r : Bool) (w : World) (hr0 : Kd.C k30 w A0 l0.length l0) (hc0 : l0.length ≤ c0) (h : gimballaw30_LogRows.f k l0 = some r) (hrt_ : Aside0 (r = true)) :
  Calls Try.prog 5 #[.slice A0 l0.length c0] w fun e w' => e = .returned (.bool r) ∧ Below w.heap.size w w' := by
 have hu30 := Try.underlying30
 have hu25 := Try.underlying25
 have HR0 := Aside0.mk hr0
 have HC0 := Aside0.mk hc0
 clear hr0 hc0
 have HB := Aside0.mk (Below.refl w.heap.size w)
 have H : (gimballaw30_LogRows.l0 k l0 0) = some r := h
 clear h
 have H' := Aside0.mk H
 clear H
 go_enter Try.func5, Try.ntmps5
 go_wp2
 refine Cu.wp_loop (Cu.f :: Cu.f :: Cu.t :: Cu.t :: Cu.t :: Cu.t :: Cu.t :: Cu.t :: Cu.t :: Cu.t :: Cu.t :: Cu.t :: Cu.t :: Cu.t :: Cu.t :: Cu.t :: Cu.t :: Cu.t :: Cu.t :: Cu.t :: Cu.t :: Cu.t :: Cu.t :: Cu.t :: Cu.t :: Cu.t :: Cu.t :: Cu.t :: Cu.t :: Cu.t :: Cu.t :: Cu.t :: Cu.t :: Cu.t :: Cu.t :: Cu.t :: Cu.t :: Cu.t :: Cu.t :: Cu.t :: Cu.t :: Cu.t :: Cu.t :: Cu.t :: Cu.t :: Cu.t :: Cu.t :: Cu.t :: Cu.t :: Cu.t :: Cu.t :: Cu.t :: Cu.t :: Cu.t :: Cu.t :: Cu.t :: Cu.t :: Cu.t :: Cu.t :: Cu.t :: Cu.t :: Cu.t :: Cu.t :: Cu.t :: Cu.t :: Cu.t :: Cu.t :: Cu.t :: Cu.t :: Cu.t :: Cu.t :: Cu.t :: Cu.t :: Cu.t :: Cu.t :: Cu.t :: Cu.t :: Cu.t :: Cu.t :: Cu.t :: Cu.t :: Cu.t :: Cu.t :: Cu.t :: Cu.t :: Cu.t :: Cu.t :: Cu.t :: Cu.t :: Cu.t :: Cu.t :: Cu.t :: Cu.t :: Cu.t :: Cu.t :: Cu.t :: Cu.t :: Cu.t :: Cu.t :: Cu.t :: Cu.t :: Cu.t :: Cu.t :: Cu.t :: Cu.t :: Cu.t :: Cu.t :: Cu.t :: Cu.t :: Cu.t :: Cu.t :: Cu.t :: Cu.t :: Cu.t :: Cu.t :: Cu.t :: Cu.t :: Cu.t :: Cu.t :: Cu.t :: Cu.t :: Cu.t :: Cu.t :: Cu.t :: Cu.t :: Cu.t :: Cu.t :: Cu.t :: Cu.t :: Cu.t :: Cu.t :: Cu.t :: Cu.t :: Cu.t :: Cu.t :: Cu.t :: Cu.t :: Cu.t :: Cu.t :: Cu.t :: Cu.t :: Cu.t :: Cu.t :: Cu.t :: Cu.t :: Cu.t :: Cu.t :: Cu.t :: Cu.t :: Cu.t :: Cu.t :: Cu.f :: []) 149 (fun kq us_ w' => ∃ (x3_1 : Int), (Cu.nth us_ 1) = .int .i64 x3_1 ∧ Aside0 (gimballaw30_LogRows.l0 kq l0 x3_1 = some r) ∧ Aside0 (kq ≤ k) ∧ Aside0 (Below w.heap.size w w')) k ?_ (by kernel_rfl) (by kernel_rfl) ?_
 · try dsimp only [Cu.pick, Cu.nth]
   exact ⟨(0), Sq.e, H', ⟨Nat.le_refl _⟩, ⟨Sq.w HB.out⟩⟩
 ·
  intro gk wr u2 u3 u4 u5 u6 u7 u8 u9 u10 u11 u12 u13 u14 u15 u16 u17 u18 u19 u20 u21 u22 u23 u24 u25 u26 u27 u28 u29 u30 u31 u32 u33 u34 u35 u36 u37 u38 u39 u40 u41 u42 u43 u44 u45 u46 u47 u48 u49 u50 u51 u52 u53 u54 u55 u56 u57 u58 u59 u60 u61 u62 u63 u64 u65 u66 u67 u68 u69 u70 u71 u72 u73 u74 u75 u76 u77 u78 u79 u80 u81 u82 u83 u84 u85 u86 u87 u88 u89 u90 u91 u92 u93 u94 u95 u96 u97 u98 u99 u100 u101 u102 u103 u104 u105 u106 u107 u108 u109 u110 u111 u112 u113 u114 u115 u116 u117 u118 u119 u120 u121 u122 u123 u124 u125 u126 u127 u128 u129 u130 u131 u132 u133 u134 u135 u136 u137 u138 u139 u140 u141 u142 u143 u144 u145 u146 u147 u148 u149 u150
  try dsimp only [Cu.over, Cu.nth]
  intro hrel _ _ _ _
  clear H'
  obtain ⟨x3_1, rfl, HA, HK1, HB⟩ := hrel
  cases gk with
  | zero => exact absurd HA.out (by simp [gimballaw30_LogRows.l0])
  | succ k1 =>
   have H := HA.out
   clear HA
   simp only [gimballaw30_LogRows.l0] at H
   have HC2 := Aside0.mk H
   clear H
   go_upto_region 2 with (fail)
   refine Cu.wp_cut (Cu.f :: Cu.f :: Cu.f :: Cu.f :: Cu.f :: Cu.f :: Cu.f :: Cu.f :: Cu.f :: Cu.f :: Cu.f :: Cu.f :: Cu.f :: Cu.f :: Cu.f :: Cu.f :: Cu.f :: Cu.f :: Cu.f :: Cu.f :: Cu.f :: Cu.t :: Cu.t :: Cu.t :: Cu.t :: Cu.t :: Cu.t :: Cu.t :: Cu.t :: Cu.t :: Cu.t :: Cu.t :: Cu.t :: Cu.t :: Cu.t :: Cu.t :: Cu.t :: Cu.t :: Cu.t :: Cu.t :: Cu.t :: Cu.t :: Cu.t :: Cu.t :: Cu.t :: Cu.t :: Cu.t :: Cu.t :: Cu.t :: Cu.t :: Cu.t :: Cu.t :: Cu.t :: Cu.t :: Cu.t :: Cu.t :: Cu.t :: Cu.t :: Cu.t :: Cu.t :: Cu.t :: Cu.t :: Cu.t :: Cu.t :: Cu.t :: Cu.t :: Cu.t :: Cu.t :: Cu.t :: Cu.t :: Cu.t :: Cu.t :: Cu.t :: Cu.t :: Cu.t :: Cu.t :: Cu.t :: Cu.t :: Cu.t :: Cu.t :: Cu.t :: Cu.t :: Cu.t :: Cu.t :: Cu.t :: Cu.t :: Cu.t :: Cu.t :: Cu.t :: Cu.t :: Cu.t :: Cu.t :: Cu.t :: Cu.t :: Cu.t :: Cu.t :: Cu.t :: Cu.t :: Cu.t :: Cu.t :: Cu.t :: Cu.t :: Cu.t :: Cu.t :: Cu.t :: Cu.t :: Cu.t :: Cu.t :: Cu.t :: Cu.t :: Cu.t :: Cu.t :: Cu.t :: Cu.t :: Cu.t :: Cu.t :: Cu.t :: Cu.t :: Cu.t :: Cu.t :: Cu.t :: Cu.t :: Cu.t :: Cu.t :: Cu.t :: Cu.t :: Cu.t :: Cu.t :: Cu.t :: Cu.t :: Cu.t :: Cu.t :: Cu.t :: Cu.t :: Cu.t :: Cu.t :: Cu.t :: Cu.t :: Cu.t :: Cu.t :: Cu.t :: Cu.t :: Cu.t :: Cu.t :: Cu.t :: Cu.t :: Cu.t :: Cu.t :: Cu.t :: Cu.t :: Cu.t :: Cu.f :: []) 130 (fun us_ wc => ∃ (kq : Nat) (x28_1 : Bool), (Cu.nth us_ 7) = .bool x28_1 ∧ Aside0 (gimballaw30_LogRows.j1 kq l0 x3_1 x28_1 = some r) ∧ Aside0 (kq ≤ k1) ∧ Aside0 (Below w.heap.size w wc)) ?_ ?_
   ·
    intro _ _ _ _
    have H := HC2.out
    clear HC2
    by_cases c3 : x3_1 < (l0.length : Int)
    ·rw [if_pos c3] at H
     have c3b0 : decide (x3_1 < (l0.length : Int)) = true := decide_eq_true c3
     clear c3
     (first | rw [c3b0] | (simp only [i64_w, i32_w]; rw [c3b0]) | skip)
     have H' := Aside0.mk H
     clear H
     go_wp2
     refine Cu.meet (by assumption) ?_ (by kernel_rfl) (by kernel_rfl)
     try dsimp only [Cu.pick, Cu.nth]
     exact ⟨_, (decide (x3_1 < 4)), Sq.e, H', ⟨by have := HK1.out; first | omega | exact Nat.le_refl _⟩, ⟨Sq.w HB.out⟩⟩
    ·rw [if_neg c3] at H
     have c3b0 : decide (x3_1 < (l0.length : Int)) = false := decide_eq_false c3
     clear c3
     (first | rw [c3b0] | (simp only [i64_w, i32_w]; rw [c3b0]) | skip)
     have H' := Aside0.mk H
     clear H
     go_wp2
     refine Cu.meet (by assumption) ?_ (by kernel_rfl) (by kernel_rfl)
     try dsimp only [Cu.pick, Cu.nth]
     exact ⟨_, (false), Sq.e, H', ⟨by have := HK1.out; first | omega | exact Nat.le_refl _⟩, ⟨Sq.w HB.out⟩⟩
   ·
    intro wc u21 u22 u23 u24 u25 u26 u27 u28 u29 u30 u31 u32 u33 u34 u35 u36 u37 u38 u39 u40 u41 u42 u43 u44 u45 u46 u47 u48 u49 u50 u51 u52 u53 u54 u55 u56 u57 u58 u59 u60 u61 u62 u63 u64 u65 u66 u67 u68 u69 u70 u71 u72 u73 u74 u75 u76 u77 u78 u79 u80 u81 u82 u83 u84 u85 u86 u87 u88 u89 u90 u91 u92 u93 u94 u95 u96 u97 u98 u99 u100 u101 u102 u103 u104 u105 u106 u107 u108 u109 u110 u111 u112 u113 u114 u115 u116 u117 u118 u119 u120 u121 u122 u123 u124 u125 u126 u127 u128 u129 u130 u131 u132 u133 u134 u135 u136 u137 u138 u139 u140 u141 u142 u143 u144 u145 u146 u147 u148 u149 u150
    try dsimp only [Cu.over, Cu.nth]
    intro hcut
    clear HC2
    obtain ⟨kq, x28_1, rfl, HA, HJ1, HB⟩ := hcut
    cases kq with
    | zero => exact absurd HA.out (by simp [gimballaw30_LogRows.j1])
    | succ kj1 =>
     have H := HA.out
     clear HA
     simp only [gimballaw30_LogRows.j1] at H
     by_cases c4 : x28_1 = true
     ·subst c4
      have H1 : (if 0 ≤ x3_1 then (if x3_1 < (l0.length : Int) then ((gimballaw30_heavy.f ((rd_T30 l0 x3_1).f0.f0) ((rd_T30 l0 x3_1).f0.f1) ((rd_T30 l0 x3_1).f1) ((rd_T30 l0 x3_1).f2) ((rd_T30 l0 x3_1).f3) ((rd_T30 l0 x3_1).f4) ((rd_T30 l0 x3_1).f5)).bind fun t137 => (if t137 = true then (some true) else (if 256 ≤ 70368744177664 then (gimballaw30_LogRows.l1 kj1 l0 x3_1 (List.replicate 256 0) 0 ((rd_T30 l0 x3_1).f0.f0) ((rd_T30 l0 x3_1).f0.f1) ((rd_T30 l0 x3_1).f1) ((rd_T30 l0 x3_1).f2) ((rd_T30 l0 x3_1).f3) ((rd_T30 l0 x3_1).f4) ((rd_T30 l0 x3_1).f5)) else (none)))) else (none)) else (none)) = some r := by rw [if_pos rfl] at H; exact H
      clear H
      have H := H1
      clear H1
      by_cases c5 : 0 ≤ x3_1
      ·rw [if_pos c5] at H
       have c5b0 : decide (0 ≤ x3_1) = true := decide_eq_true c5
       clear c5
       by_cases c6 : x3_1 < (l0.length : Int)
       ·rw [if_pos c6] at H
        have c6b0 : decide (x3_1 < (l0.length : Int)) = true := decide_eq_true c6
        clear c6
        replace H := Option.bind_eq_some_iff.mp H
        obtain ⟨t137, A70, H⟩ := H
        replace H : (if t137 = true then (some true) else (if 256 ≤ 70368744177664 then (gimballaw30_LogRows.l1 kj1 l0 x3_1 (List.replicate 256 0) 0 ((rd_T30 l0 x3_1).f0.f0) ((rd_T30 l0 x3_1).f0.f1) ((rd_T30 l0 x3_1).f1) ((rd_T30 l0 x3_1).f2) ((rd_T30 l0 x3_1).f3) ((rd_T30 l0 x3_1).f4) ((rd_T30 l0 x3_1).f5)) else (none))) = some r := H
        have A7 := Aside0.mk A70
        clear A70
        by_cases c8 : t137 = true
        ·subst c8
         have H1 : (some true) = some r := by rw [if_pos rfl] at H; exact H
         clear H
         have H := H1
         clear H1
         obtain rfl := Option.some.inj H
         have p135 : 0 ≤ (x3_1 : Int) := of_decide_eq_true (by first | (with_reducible assumption) | assumption)
         have q135 : x3_1 < (l0.length : Int) := of_decide_eq_true (by first | (with_reducible assumption) | assumption)
         obtain ⟨ad135, A135_1, c135_1, A135_4, c135_4, A135_5, c135_5, e135, hx135_0, hx135_1, hx135_2, hx135_3, hx135_4, hx135_5, hx135_6, hl135_1, hi135_1, hl135_4, hi135_4, hl135_5, hi135_5⟩ := at_T30 HR0.out x3_1 p135 q135
         cases e135
         replace hx135_0 := (HB.out.cell (World.block_lt_of_cell? w _ hx135_0)).trans hx135_0
         replace hx135_1 := (HB.out.cell (World.block_lt_of_cell? w _ hx135_1)).trans hx135_1
         replace hx135_2 := (HB.out.cell (World.block_lt_of_cell? w _ hx135_2)).trans hx135_2
         replace hx135_3 := (HB.out.cell (World.block_lt_of_cell? w _ hx135_3)).trans hx135_3
         replace hx135_4 := (HB.out.cell (World.block_lt_of_cell? w _ hx135_4)).trans hx135_4
         replace hx135_5 := (HB.out.cell (World.block_lt_of_cell? w _ hx135_5)).trans hx135_5
         replace hx135_6 := (HB.out.cell (World.block_lt_of_cell? w _ hx135_6)).trans hx135_6
         have HR135_1 := Aside0.mk hi135_1
         have HC135_1 := Aside0.mk hl135_1
         clear hi135_1 hl135_1
         have HR135_4 := Aside0.mk hi135_4
         have HC135_4 := Aside0.mk hl135_4
         clear hi135_4 hl135_4
         have HR135_5 := Aside0.mk hi135_5
         have HC135_5 := Aside0.mk hl135_5
         clear hi135_5 hl135_5
         replace p135 := eq_true p135
         replace q135 := eq_true q135
         go_wp2_with (first | ((with_reducible refine gate_dst (N := 4) rfl ?_); (try (refine gate_guard (by rfl) ?_; dsimp only)); refine box_event ?hg (N := 4) ?hd (cs := #[.int .i64 0, .slice none 0 0, .int .i64 0, .int .u32 0, .slice none 0 0, .slice none 0 0, .int .i64 0]) (t := 30) ?hr ?_; (case hd => rfl); (case hg => rfl); (case hr => first | (go_simp; done) | (go_simp; rfl)); intro gb136 hg w9 hbox hb; have BK136 := Aside0.mk hbox; have GW136 := Sq.ge hg HB; have GE136 := Sq.ge hg HB; replace HB := Sq.sw HB hb; clear hb hbox hg; obtain ⟨z10_0, z10_1, z10_2, z10_3, z10_4, z10_5, z10_6⟩ := Sq.c7 BK136.out; obtain ⟨y10_0, y10_1, y10_2, y10_3, y10_4, y10_5, y10_6⟩ := Sq.f7 BK136.out) | ((with_reducible refine gate_callee (f := 6) rfl ?_); refine goesL_ (some 36) rfl rfl Try.func6 (by kernel_rfl) rfl #[.agg #[.int .i64 ((rd_T30 l0 x3_1).f0.f0), .slice A135_1 ((rd_T30 l0 x3_1).f0.f1).length c135_1, .int .i64 ((rd_T30 l0 x3_1).f1), .int .u32 ((rd_T30 l0 x3_1).f2), .slice A135_4 ((rd_T30 l0 x3_1).f3).length c135_4, .slice A135_5 ((rd_T30 l0 x3_1).f4).length c135_5, .int .i64 ((rd_T30 l0 x3_1).f5)]] rfl Sq.m ?_; (with_reducible refine (gimballaw30_heavy.calls ((rd_T30 l0 x3_1).f0.f0) _ _ ((rd_T30 l0 x3_1).f0.f1) ((rd_T30 l0 x3_1).f1) ((rd_T30 l0 x3_1).f2) _ _ ((rd_T30 l0 x3_1).f3) _ _ ((rd_T30 l0 x3_1).f4) ((rd_T30 l0 x3_1).f5) true _ ?side1 ?side2 ?side3 ?side4 ?side5 ?side6 A7.out).mono ?_); (case side1 => exact Kd.C_below HR135_1.out (Sq.w HB.out)); (case side2 => exact HC135_1.out); (case side3 => exact Kd.C_below HR135_4.out (Sq.w HB.out)); (case side4 => exact HC135_4.out); (case side5 => exact Kd.C_below HR135_5.out (Sq.w HB.out)); (case side6 => exact HC135_5.out); rintro e w11 ⟨rfl, hb⟩; refine ⟨_, rfl, ?_⟩; replace BK136 := Aside0.mk (blk_below (g := gb136) (o := .cells #[.int .i64 ((rd_T30 l0 x3_1).f0.f0), .slice A135_1 ((rd_T30 l0 x3_1).f0.f1).length c135_1, .int .i64 ((rd_T30 l0 x3_1).f1), .int .u32 ((rd_T30 l0 x3_1).f2), .slice A135_4 ((rd_T30 l0 x3_1).f3).length c135_4, .slice A135_5 ((rd_T30 l0 x3_1).f4).length c135_5, .int .i64 ((rd_T30 l0 x3_1).f5)] 30 (0, 0)) (Sq.B BK136.out) hb); replace HB := Sq.sw HB hb; (try clear hb); (try clear hb2); (try clear hk); (try clear hi)))
         go_ret
         exact ⟨by first | rfl | (simp [errW_none, errW_some] <;> rfl) | (simp [*, errW_none, errW_some] <;> rfl), Sq.w HB.out⟩
        ·replace c8 := Bool.eq_false_iff.mpr c8
         subst c8
         have H1 : (if 256 ≤ 70368744177664 then (gimballaw30_LogRows.l1 kj1 l0 x3_1 (List.replicate 256 0) 0 ((rd_T30 l0 x3_1).f0.f0) ((rd_T30 l0 x3_1).f0.f1) ((rd_T30 l0 x3_1).f1) ((rd_T30 l0 x3_1).f2) ((rd_T30 l0 x3_1).f3) ((rd_T30 l0 x3_1).f4) ((rd_T30 l0 x3_1).f5)) else (none)) = some r := by rw [if_neg (show ¬ (false = true) by decide)] at H; exact H
         clear H
         have H := H1
         clear H1
         by_cases c12 : 256 ≤ 70368744177664
         ·rw [if_pos c12] at H
          have c12b0 := eq_true c12
          have c12b1 : decide (256 ≤ 70368744177664) = true := decide_eq_true c12
          clear c12
          obtain ⟨y138, hy138⟩ : ∃ y_ : List Int, y_ = (List.replicate 256 0) := ⟨_, rfl⟩
          replace H : (gimballaw30_LogRows.l1 kj1 l0 x3_1 y138 0 ((rd_T30 l0 x3_1).f0.f0) ((rd_T30 l0 x3_1).f0.f1) ((rd_T30 l0 x3_1).f1) ((rd_T30 l0 x3_1).f2) ((rd_T30 l0 x3_1).f3) ((rd_T30 l0 x3_1).f4) ((rd_T30 l0 x3_1).f5)) = some r := by first | (rw [hy138]; with_reducible exact H) | (have H2_ := (Option.bind_some _ _).symm.trans H; rw [hy138]; with_reducible exact H2_) | (have H2_ := (Option.bind_some _ _).symm.trans H; with_reducible exact H2_) | with_reducible exact H | (rw [hy138]; exact H) | exact H
          have Ny138 := Aside0.mk hy138
          clear hy138
          have H' := Aside0.mk H
          clear H
          have p135 : 0 ≤ (x3_1 : Int) := of_decide_eq_true (by first | (with_reducible assumption) | assumption)
          have q135 : x3_1 < (l0.length : Int) := of_decide_eq_true (by first | (with_reducible assumption) | assumption)
          obtain ⟨ad135, A135_1, c135_1, A135_4, c135_4, A135_5, c135_5, e135, hx135_0, hx135_1, hx135_2, hx135_3, hx135_4, hx135_5, hx135_6, hl135_1, hi135_1, hl135_4, hi135_4, hl135_5, hi135_5⟩ := at_T30 HR0.out x3_1 p135 q135
          cases e135
          replace hx135_0 := (HB.out.cell (World.block_lt_of_cell? w _ hx135_0)).trans hx135_0
          replace hx135_1 := (HB.out.cell (World.block_lt_of_cell? w _ hx135_1)).trans hx135_1
          replace hx135_2 := (HB.out.cell (World.block_lt_of_cell? w _ hx135_2)).trans hx135_2
          replace hx135_3 := (HB.out.cell (World.block_lt_of_cell? w _ hx135_3)).trans hx135_3
          replace hx135_4 := (HB.out.cell (World.block_lt_of_cell? w _ hx135_4)).trans hx135_4
          replace hx135_5 := (HB.out.cell (World.block_lt_of_cell? w _ hx135_5)).trans hx135_5
          replace hx135_6 := (HB.out.cell (World.block_lt_of_cell? w _ hx135_6)).trans hx135_6
          have HR135_1 := Aside0.mk hi135_1
          have HC135_1 := Aside0.mk hl135_1
          clear hi135_1 hl135_1
          have HR135_4 := Aside0.mk hi135_4
          have HC135_4 := Aside0.mk hl135_4
          clear hi135_4 hl135_4
          have HR135_5 := Aside0.mk hi135_5
          have HC135_5 := Aside0.mk hl135_5
          clear hi135_5 hl135_5
          replace p135 := eq_true p135
          replace q135 := eq_true q135
          go_wp2_with (first | ((with_reducible refine gate_dst (N := 4) rfl ?_); (try (refine gate_guard (by rfl) ?_; dsimp only)); refine box_event ?hg (N := 4) ?hd (cs := #[.int .i64 0, .slice none 0 0, .int .i64 0, .int .u32 0, .slice none 0 0, .slice none 0 0, .int .i64 0]) (t := 30) ?hr ?_; (case hd => rfl); (case hg => rfl); (case hr => first | (go_simp; done) | (go_simp; rfl)); intro gb136 hg w13 hbox hb; have BK136 := Aside0.mk hbox; have GW136 := Sq.ge hg HB; have GE136 := Sq.ge hg HB; replace HB := Sq.sw HB hb; clear hb hbox hg; obtain ⟨z14_0, z14_1, z14_2, z14_3, z14_4, z14_5, z14_6⟩ := Sq.c7 BK136.out; obtain ⟨y14_0, y14_1, y14_2, y14_3, y14_4, y14_5, y14_6⟩ := Sq.f7 BK136.out) | ((with_reducible refine gate_callee (f := 6) rfl ?_); refine goesL_ (some 36) rfl rfl Try.func6 (by kernel_rfl) rfl #[.agg #[.int .i64 ((rd_T30 l0 x3_1).f0.f0), .slice A135_1 ((rd_T30 l0 x3_1).f0.f1).length c135_1, .int .i64 ((rd_T30 l0 x3_1).f1), .int .u32 ((rd_T30 l0 x3_1).f2), .slice A135_4 ((rd_T30 l0 x3_1).f3).length c135_4, .slice A135_5 ((rd_T30 l0 x3_1).f4).length c135_5, .int .i64 ((rd_T30 l0 x3_1).f5)]] rfl Sq.m ?_; (with_reducible refine (gimballaw30_heavy.calls ((rd_T30 l0 x3_1).f0.f0) _ _ ((rd_T30 l0 x3_1).f0.f1) ((rd_T30 l0 x3_1).f1) ((rd_T30 l0 x3_1).f2) _ _ ((rd_T30 l0 x3_1).f3) _ _ ((rd_T30 l0 x3_1).f4) ((rd_T30 l0 x3_1).f5) false _ ?side1 ?side2 ?side3 ?side4 ?side5 ?side6 A7.out).mono ?_); (case side1 => exact Kd.C_below HR135_1.out (Sq.w HB.out)); (case side2 => exact HC135_1.out); (case side3 => exact Kd.C_below HR135_4.out (Sq.w HB.out)); (case side4 => exact HC135_4.out); (case side5 => exact Kd.C_below HR135_5.out (Sq.w HB.out)); (case side6 => exact HC135_5.out); rintro e w15 ⟨rfl, hb⟩; refine ⟨_, rfl, ?_⟩; replace BK136 := Aside0.mk (blk_below (g := gb136) (o := .cells #[.int .i64 ((rd_T30 l0 x3_1).f0.f0), .slice A135_1 ((rd_T30 l0 x3_1).f0.f1).length c135_1, .int .i64 ((rd_T30 l0 x3_1).f1), .int .u32 ((rd_T30 l0 x3_1).f2), .slice A135_4 ((rd_T30 l0 x3_1).f3).length c135_4, .slice A135_5 ((rd_T30 l0 x3_1).f4).length c135_5, .int .i64 ((rd_T30 l0 x3_1).f5)] 30 (0, 0)) (Sq.B BK136.out) hb); replace HB := Sq.sw HB hb; (try clear hb); (try clear hb2); (try clear hk); (try clear hi)) | ((with_reducible refine gate_dst (N := 37) rfl ?_); (try (refine gate_guard (by rfl) ?_; dsimp only)); refine Kd.R_make (Kd.int .u32) _ 26 rfl (N := 37) rfl 27 _ _ rfl 256 rfl rfl Try.underlying27 (.int .u32 0) 4 info26 rfl (by decide) (by omega) 0 (ok := fun _ => True) (okp := fun _ => True) rfl (fun _ hk => hk) trivial (by omega) (by omega) (Below.refl _ _) (Nat.le_refl _) ?_; intro v139 w16 ho17 hb hg_ hnew_; clear hg_ hnew_; (first | rw [← Ny138.out] at ho17 | (simp only [Int.reduceToNat] at ho17; rw [← Ny138.out] at ho17)); have HO140 := Aside0.mk (Kd.R_lower ho17 (below_size (Sq.w HB.out))); replace BK136 := Sq.sb BK136 hb; replace HB := Sq.sw HB hb; clear hb ho17))
          refine Cu.wp_loop (Cu.f :: Cu.f :: Cu.f :: Cu.f :: Cu.f :: Cu.f :: Cu.t :: Cu.f :: Cu.f :: Cu.f :: Cu.f :: Cu.f :: Cu.f :: Cu.f :: Cu.f :: Cu.f :: Cu.f :: Cu.f :: Cu.f :: Cu.f :: Cu.f :: Cu.f :: Cu.f :: Cu.f :: Cu.f :: Cu.f :: Cu.f :: Cu.f :: Cu.f :: Cu.f :: Cu.f :: Cu.f :: Cu.f :: Cu.f :: Cu.f :: Cu.f :: Cu.f :: Cu.f :: Cu.t :: Cu.t :: Cu.t :: Cu.t :: Cu.t :: Cu.t :: Cu.t :: Cu.t :: Cu.t :: Cu.f :: Cu.f :: Cu.f :: Cu.f :: Cu.f :: Cu.f :: Cu.f :: Cu.f :: Cu.f :: Cu.f :: Cu.f :: Cu.f :: Cu.f :: Cu.f :: Cu.f :: Cu.f :: Cu.f :: Cu.f :: Cu.f :: Cu.f :: Cu.f :: Cu.f :: Cu.f :: Cu.f :: Cu.f :: Cu.f :: Cu.f :: Cu.f :: Cu.f :: Cu.f :: Cu.f :: Cu.f :: Cu.f :: Cu.f :: Cu.f :: Cu.f :: Cu.f :: Cu.f :: Cu.f :: Cu.f :: Cu.f :: Cu.f :: Cu.f :: Cu.f :: Cu.f :: Cu.f :: Cu.f :: Cu.f :: Cu.f :: Cu.f :: Cu.f :: Cu.f :: Cu.f :: Cu.f :: Cu.f :: Cu.f :: Cu.f :: Cu.f :: Cu.f :: Cu.f :: Cu.f :: Cu.f :: Cu.f :: Cu.f :: Cu.f :: Cu.f :: Cu.f :: Cu.f :: Cu.f :: Cu.f :: Cu.f :: Cu.f :: Cu.f :: Cu.f :: Cu.f :: Cu.f :: Cu.f :: Cu.f :: Cu.f :: Cu.f :: Cu.f :: Cu.f :: Cu.f :: Cu.f :: Cu.f :: Cu.f :: Cu.f :: Cu.f :: Cu.f :: Cu.f :: Cu.f :: Cu.f :: Cu.f :: Cu.f :: Cu.f :: Cu.f :: Cu.f :: Cu.f :: Cu.f :: Cu.f :: Cu.f :: Cu.f :: Cu.f :: Cu.f :: Cu.f :: []) 10 (fun kq us_ w' => ∃ (x5_3 : List Int) (x6_3 : Int), (Cu.nth us_ 0) = .int .i64 x6_3 ∧ Aside0 (gimballaw30_LogRows.l1 kq l0 x3_1 x5_3 x6_3 ((rd_T30 l0 x3_1).f0.f0) ((rd_T30 l0 x3_1).f0.f1) ((rd_T30 l0 x3_1).f1) ((rd_T30 l0 x3_1).f2) ((rd_T30 l0 x3_1).f3) ((rd_T30 l0 x3_1).f4) ((rd_T30 l0 x3_1).f5) = some r) ∧ Aside0 (kq ≤ kj1) ∧ Aside0 (Kd.R (Kd.int .u32) 26 w' w.heap.size (fun _ => True) v139 x5_3) ∧ Aside0 (w'.heap[gb136]? = some (.cells #[.int .i64 ((rd_T30 l0 x3_1).f0.f0), (.slice A135_1 ((rd_T30 l0 x3_1).f0.f1).length c135_1), .int .i64 ((rd_T30 l0 x3_1).f1), .int .u32 ((rd_T30 l0 x3_1).f2), (.slice A135_4 ((rd_T30 l0 x3_1).f3).length c135_4), (.slice A135_5 ((rd_T30 l0 x3_1).f4).length c135_5), .int .i64 ((rd_T30 l0 x3_1).f5)] 30 (0, 0))) ∧ Aside0 (Below w.heap.size w w')) kj1 ?_ (by kernel_rfl) (by kernel_rfl) ?_
          · try dsimp only [Cu.pick, Cu.nth]
            exact ⟨(y138), (0), Sq.e, H', ⟨Nat.le_refl _⟩, ⟨Sq.rR HO140.out⟩, ⟨Sq.b BK136.out⟩, ⟨Sq.w HB.out⟩⟩
          ·
           intro gk wr u6 u38 u39 u40 u41 u42 u43 u44 u45 u46
           try dsimp only [Cu.over, Cu.nth]
           intro hrel _ _ _ _
           clear H'; (try clear c4); (try clear c5b0); (try clear c6b0); (try clear c8); (try clear c12b0); (try clear c12b1); (try clear z14_0 z14_1 z14_2 z14_3 z14_4 z14_5 z14_6); (try clear y14_0 y14_1 y14_2 y14_3 y14_4 y14_5 y14_6); (try clear hx135_0); (try clear hx135_1); (try clear hx135_2); (try clear hx135_3); (try clear hx135_4); (try clear hx135_5); (try clear hx135_6); (try clear p135); (try clear q135)
           obtain ⟨x5_3, x6_3, rfl, HA, HK3, HO_5, BK136, HB⟩ := hrel
           cases gk with
           | zero => exact absurd HA.out (by simp [gimballaw30_LogRows.l1])
           | succ k3 =>
            have H := HA.out
            clear HA
            simp only [gimballaw30_LogRows.l1] at H
            by_cases c18 : x6_3 < (x5_3.length : Int)
            ·rw [if_pos c18] at H
             have c18b0 : decide (x6_3 < (x5_3.length : Int)) = true := decide_eq_true c18
             clear c18
             by_cases c19 : 0 ≤ x6_3
             ·rw [if_pos c19] at H
              have c19b0 : decide (0 ≤ x6_3) = true := decide_eq_true c19
              clear c19
              obtain ⟨y141, hy141⟩ : ∃ y_ : List Int, y_ = (x5_3.set (x6_3 : Int).toNat 4294967295) := ⟨_, rfl⟩
              replace H : (gimballaw30_LogRows.l1 k3 l0 x3_1 y141 (wrap64 (x6_3 + 1)) ((rd_T30 l0 x3_1).f0.f0) ((rd_T30 l0 x3_1).f0.f1) ((rd_T30 l0 x3_1).f1) ((rd_T30 l0 x3_1).f2) ((rd_T30 l0 x3_1).f3) ((rd_T30 l0 x3_1).f4) ((rd_T30 l0 x3_1).f5)) = some r := by first | (rw [hy141]; with_reducible exact H) | (have H2_ := (Option.bind_some _ _).symm.trans H; rw [hy141]; with_reducible exact H2_) | (have H2_ := (Option.bind_some _ _).symm.trans H; with_reducible exact H2_) | with_reducible exact H | (rw [hy141]; exact H) | exact H
              have Ny141 := Aside0.mk hy141
              clear hy141
              have H' := Aside0.mk H
              clear H
              obtain ⟨Ao21, co21, eo21⟩ := Kd.R_slice HO_5.out
              subst eo21
              have p20 : 0 ≤ (x6_3 : Int) := of_decide_eq_true (by first | (with_reducible assumption) | assumption)
              have q20 : (x6_3 : Int) < ((x5_3.length : Int) : Int) := of_decide_eq_true (by first | (with_reducible assumption) | assumption)
              obtain ⟨go20, co20, eo20, gb20, gl20, cl20, HG20⟩ := Kd.R_form HO_5.out (by omega)
              (first | cases eo20 | (injection eo20 with ea_ en_ ec_; (first | subst ea_ | (injection ea_ with ea_; subst ea_)); subst ec_; clear en_))
              have GB20 := Aside0.mk gb20
              have GG20 := Aside0.mk HG20
              clear gb20 gl20 HG20
              obtain ⟨hx20_0, hf20_0⟩ := Kd.R_celln 0 HO_5.out (x6_3 : Int) p20 q20
              replace p20 := eq_true p20
              replace q20 := eq_true q20
              have HP22 := Kd.R_putg HO_5.out (x6_3 : Int) 4294967295
              go_wp2_with (first | ((with_reducible refine gate_store (t := 26) (p := 46) rfl ?_); refine store_event (t := 26) (p := 46) (v := ?vo_w23) (w1 := (wr.setCell ⟨go20, (x6_3 : Int).toNat, none⟩ (.int .u32 4294967295))) ?hg ?ho ?hn ?hr ?_; (case ho => rfl); (case hg => rfl); (case hn => rfl); (case hr => first | (go_simp; done) | (go_simp; rfl)); intro w23 hw; have hg : wr.grownBy w23 (some go20) := (by rw [hw]; exact HP22.2); have hp_ : Kd.R (Kd.int .u32) 26 w23 w.heap.size (fun _ => True) (.slice (some ⟨go20, 0, none⟩) x5_3.length co21) y141 := (by rw [hw, Ny141.out]; exact HP22.1); clear HP22; have n0_ := Aside0.mk (hp_); have n1_ := Aside0.mk (blk_grown (g := gb136) (o := .cells #[.int .i64 ((rd_T30 l0 x3_1).f0.f0), .slice A135_1 ((rd_T30 l0 x3_1).f0.f1).length c135_1, .int .i64 ((rd_T30 l0 x3_1).f1), .int .u32 ((rd_T30 l0 x3_1).f2), .slice A135_4 ((rd_T30 l0 x3_1).f3).length c135_4, .slice A135_5 ((rd_T30 l0 x3_1).f4).length c135_5, .int .i64 ((rd_T30 l0 x3_1).f5)] 30 (0, 0)) (Sq.b BK136.out) hg (Kd.R_ne HO_5.out BK136.out (by decide))); have n2_ := Aside0.mk ((by rw [hw]; exact below_set (HB.out) GB20.out : Below w.heap.size w w23)); clear HO_5; clear BK136; clear HB; have HO_5 := n0_; have BK136 := n1_; have HB := n2_; clear n0_ n1_ n2_; clear hg hw hp_))
              refine Cu.handed k3 (by have := HK1.out; have := HJ1.out; have := HK3.out; omega) (by assumption) ?_ (by kernel_rfl) (by kernel_rfl)
              try dsimp only [Cu.pick, Cu.nth]
              exact ⟨(y141), (wrap64 (x6_3 + 1)), Sq.e, H', ⟨by have := HK1.out; have := HJ1.out; have := HK3.out; omega⟩, ⟨Sq.rR HO_5.out⟩, ⟨Sq.b BK136.out⟩, ⟨Sq.w HB.out⟩⟩
             ·rw [if_neg c19] at H
              exact absurd H (by simp)
            ·rw [if_neg c18] at H
             have c18b0 : decide (x6_3 < (x5_3.length : Int)) = false := decide_eq_false c18
             clear c18
             have H' := Aside0.mk H
             clear H
             obtain ⟨Ao24, co24, eo24⟩ := Kd.R_slice HO_5.out
             subst eo24
             go_wp2
             refine Cu.wp_loop (Cu.f :: Cu.f :: Cu.f :: Cu.f :: Cu.f :: Cu.f :: Cu.f :: Cu.t :: Cu.t :: Cu.t :: Cu.t :: Cu.t :: Cu.t :: Cu.f :: Cu.f :: Cu.f :: Cu.f :: Cu.f :: Cu.f :: Cu.f :: Cu.f :: Cu.f :: Cu.f :: Cu.f :: Cu.f :: Cu.f :: Cu.f :: Cu.f :: Cu.f :: Cu.f :: Cu.f :: Cu.f :: Cu.f :: Cu.f :: Cu.f :: Cu.f :: Cu.f :: Cu.f :: Cu.f :: Cu.f :: Cu.f :: Cu.f :: Cu.f :: Cu.f :: Cu.f :: Cu.f :: Cu.f :: Cu.t :: Cu.t :: Cu.t :: Cu.t :: Cu.t :: Cu.t :: Cu.t :: Cu.t :: Cu.t :: Cu.t :: Cu.t :: Cu.t :: Cu.t :: Cu.t :: Cu.t :: Cu.t :: Cu.t :: Cu.t :: Cu.t :: Cu.t :: Cu.t :: Cu.t :: Cu.t :: Cu.t :: Cu.t :: Cu.t :: Cu.t :: Cu.t :: Cu.t :: Cu.t :: Cu.t :: Cu.t :: Cu.t :: Cu.t :: Cu.t :: Cu.t :: Cu.t :: Cu.t :: Cu.t :: Cu.t :: Cu.t :: Cu.t :: Cu.t :: Cu.t :: Cu.f :: Cu.f :: Cu.f :: Cu.f :: Cu.f :: Cu.f :: Cu.f :: Cu.f :: Cu.f :: Cu.f :: Cu.f :: Cu.f :: Cu.f :: Cu.f :: Cu.f :: Cu.f :: Cu.f :: Cu.f :: Cu.f :: Cu.f :: Cu.f :: Cu.f :: Cu.f :: Cu.f :: Cu.f :: Cu.f :: Cu.f :: Cu.f :: Cu.f :: Cu.f :: Cu.f :: Cu.f :: Cu.f :: Cu.f :: Cu.f :: Cu.f :: Cu.f :: Cu.f :: Cu.f :: Cu.f :: Cu.f :: Cu.f :: Cu.f :: Cu.f :: Cu.f :: Cu.f :: Cu.f :: Cu.f :: Cu.f :: Cu.f :: Cu.f :: Cu.f :: Cu.f :: Cu.f :: Cu.f :: Cu.f :: Cu.f :: Cu.f :: Cu.f :: Cu.f :: Cu.f :: []) 50 (fun kq us_ w' => ∃ (x5_4 : List Int) (x7_4 : Int) (x8_4 : List (S25)) (x9_4 : Int) (x10_4 : Int), (Cu.nth us_ 0) = .int .i64 x7_4 ∧ (Cu.nth us_ 2) = .int .i64 x9_4 ∧ (Cu.nth us_ 3) = .int .i64 x10_4 ∧ Aside0 (gimballaw30_LogRows.l2 kq l0 x3_1 x5_4 x7_4 x8_4 x9_4 x10_4 ((rd_T30 l0 x3_1).f0.f0) ((rd_T30 l0 x3_1).f0.f1) ((rd_T30 l0 x3_1).f1) ((rd_T30 l0 x3_1).f2) ((rd_T30 l0 x3_1).f3) ((rd_T30 l0 x3_1).f4) ((rd_T30 l0 x3_1).f5) = some r) ∧ Aside0 (kq ≤ k3) ∧ Aside0 (Kd.R (Kd.int .u32) 26 w' w.heap.size (fun _ => True) (.slice Ao24 x5_3.length co24) x5_4) ∧ Aside0 (Kd.S (Ho.km k25 w) 25 w' w.heap.size (fun _ => True) (Cu.nth us_ 1) x8_4) ∧ Aside0 (w'.heap[gb136]? = some (.cells #[.int .i64 ((rd_T30 l0 x3_1).f0.f0), (.slice A135_1 ((rd_T30 l0 x3_1).f0.f1).length c135_1), .int .i64 ((rd_T30 l0 x3_1).f1), .int .u32 ((rd_T30 l0 x3_1).f2), (.slice A135_4 ((rd_T30 l0 x3_1).f3).length c135_4), (.slice A135_5 ((rd_T30 l0 x3_1).f4).length c135_5), .int .i64 ((rd_T30 l0 x3_1).f5)] 30 (0, 0))) ∧ Aside0 (Below w.heap.size w w')) k3 ?_ (by kernel_rfl) (by kernel_rfl) ?_
             · try dsimp only [Cu.pick, Cu.nth]
               exact ⟨(x5_3), (1), (([] : List (S25))), (1), (0), Sq.e, Sq.e, Sq.e, H', ⟨Nat.le_refl _⟩, ⟨Sq.rR HO_5.out⟩, ⟨by first | exact Kd.S_nil _ _ _ _ _ | exact Kd.N_nil _ _ _ _ _ | exact Kd.V_nil _ _ _ _ _ | exact Kd.Q_nil _ _ _ _ _ | exact Kd.R_nil _ _ _ _ _⟩, ⟨Sq.b BK136.out⟩, ⟨Sq.w HB.out⟩⟩
             ·
              intro gk wr u7 u8 u9 u10 u11 u12 u47 u48 u49 u50 u51 u52 u53 u54 u55 u56 u57 u58 u59 u60 u61 u62 u63 u64 u65 u66 u67 u68 u69 u70 u71 u72 u73 u74 u75 u76 u77 u78 u79 u80 u81 u82 u83 u84 u85 u86 u87 u88 u89 u90
              try dsimp only [Cu.over, Cu.nth]
              intro hrel _ _ _ _
              clear H'; (try clear c18b0)
              obtain ⟨x5_4, x7_4, x8_4, x9_4, x10_4, rfl, rfl, rfl, HA, HK4, HO_5, HO_8, BK136, HB⟩ := hrel
              have hl5_4 := (Kd.R_reads' HO_5.out).1
              rw [hl5_4] at HO_5
              (try simp only [hl5_4])
              (try simp only [hl5_4] at BK136)
              (try simp only [hl5_4] at HO_8)
              cases gk with
              | zero => exact absurd HA.out (by simp [gimballaw30_LogRows.l2])
              | succ k4 =>
               have H := HA.out
               clear HA
               simp only [gimballaw30_LogRows.l2] at H
               by_cases c25 : x10_4 < (((rd_T30 l0 x3_1).f4).length : Int)
               ·rw [if_pos c25] at H
                have c25b0 : decide (x10_4 < (((rd_T30 l0 x3_1).f4).length : Int)) = true := decide_eq_true c25
                clear c25
                by_cases c26 : 0 ≤ x10_4
                ·rw [if_pos c26] at H
                 have c26b0 : decide (0 ≤ x10_4) = true := decide_eq_true c26
                 clear c26
                 replace H := Option.bind_eq_some_iff.mp H
                 obtain ⟨⟨t143, t146⟩, A270, H⟩ := H
                 replace H : ((gimballaw30_num.f t146).bind fun t147 => (if t147 = 0 then (if (wrap64 (x7_4 + (t143.length : Int))) > 256 then (gimballaw30_LogRows.l2 k4 l0 x3_1 x5_4 x7_4 x8_4 x9_4 (wrap64 (x10_4 + 1)) ((rd_T30 l0 x3_1).f0.f0) ((rd_T30 l0 x3_1).f0.f1) ((rd_T30 l0 x3_1).f1) ((rd_T30 l0 x3_1).f2) ((rd_T30 l0 x3_1).f3) ((rd_T30 l0 x3_1).f4) ((rd_T30 l0 x3_1).f5)) else (if 0 ≤ x7_4 then (if x7_4 ≤ (x5_4.length : Int) then (if x8_4.length < 4398046511104 then (gimballaw30_LogRows.l2 k4 l0 x3_1 (copyIn x5_4 (x7_4 : Int).toNat t143) (wrap64 (x7_4 + (t143.length : Int))) (x8_4 ++ [(⟨(rd_T25 ((rd_T30 l0 x3_1).f4) x10_4).f0, (rd_T25 ((rd_T30 l0 x3_1).f4) x10_4).f1⟩ : S25)]) x7_4 (wrap64 (x10_4 + 1)) ((rd_T30 l0 x3_1).f0.f0) ((rd_T30 l0 x3_1).f0.f1) ((rd_T30 l0 x3_1).f1) ((rd_T30 l0 x3_1).f2) ((rd_T30 l0 x3_1).f3) ((rd_T30 l0 x3_1).f4) ((rd_T30 l0 x3_1).f5)) else (none)) else (none)) else (none))) else (gimballaw30_LogRows.l2 k4 l0 x3_1 x5_4 x7_4 x8_4 x9_4 (wrap64 (x10_4 + 1)) ((rd_T30 l0 x3_1).f0.f0) ((rd_T30 l0 x3_1).f0.f1) ((rd_T30 l0 x3_1).f1) ((rd_T30 l0 x3_1).f2) ((rd_T30 l0 x3_1).f3) ((rd_T30 l0 x3_1).f4) ((rd_T30 l0 x3_1).f5)))) = some r := H
                 have A27 := Aside0.mk A270
                 clear A270
                 replace H := Option.bind_eq_some_iff.mp H
                 obtain ⟨t147, A280, H⟩ := H
                 replace H : (if t147 = 0 then (if (wrap64 (x7_4 + (t143.length : Int))) > 256 then (gimballaw30_LogRows.l2 k4 l0 x3_1 x5_4 x7_4 x8_4 x9_4 (wrap64 (x10_4 + 1)) ((rd_T30 l0 x3_1).f0.f0) ((rd_T30 l0 x3_1).f0.f1) ((rd_T30 l0 x3_1).f1) ((rd_T30 l0 x3_1).f2) ((rd_T30 l0 x3_1).f3) ((rd_T30 l0 x3_1).f4) ((rd_T30 l0 x3_1).f5)) else (if 0 ≤ x7_4 then (if x7_4 ≤ (x5_4.length : Int) then (if x8_4.length < 4398046511104 then (gimballaw30_LogRows.l2 k4 l0 x3_1 (copyIn x5_4 (x7_4 : Int).toNat t143) (wrap64 (x7_4 + (t143.length : Int))) (x8_4 ++ [(⟨(rd_T25 ((rd_T30 l0 x3_1).f4) x10_4).f0, (rd_T25 ((rd_T30 l0 x3_1).f4) x10_4).f1⟩ : S25)]) x7_4 (wrap64 (x10_4 + 1)) ((rd_T30 l0 x3_1).f0.f0) ((rd_T30 l0 x3_1).f0.f1) ((rd_T30 l0 x3_1).f1) ((rd_T30 l0 x3_1).f2) ((rd_T30 l0 x3_1).f3) ((rd_T30 l0 x3_1).f4) ((rd_T30 l0 x3_1).f5)) else (none)) else (none)) else (none))) else (gimballaw30_LogRows.l2 k4 l0 x3_1 x5_4 x7_4 x8_4 x9_4 (wrap64 (x10_4 + 1)) ((rd_T30 l0 x3_1).f0.f0) ((rd_T30 l0 x3_1).f0.f1) ((rd_T30 l0 x3_1).f1) ((rd_T30 l0 x3_1).f2) ((rd_T30 l0 x3_1).f3) ((rd_T30 l0 x3_1).f4) ((rd_T30 l0 x3_1).f5))) = some r := H
                 have A28 := Aside0.mk A280
                 clear A280
                 by_cases c29 : t147 = 0
                 ·rw [if_pos c29] at H
                  have c29b0 : (t147 == 0) = true := beq_iff_eq.mpr c29
                  have c29b1 : (t147 != 0) = false := bne_eq_false_iff_eq.mpr c29
                  clear c29
                  by_cases c30 : (wrap64 (x7_4 + (t143.length : Int))) > 256
                  ·rw [if_pos c30] at H
                   have c30b0 : decide (256 < (wrap64 (x7_4 + (t143.length : Int)))) = true := decide_eq_true c30
                   clear c30
                   have H' := Aside0.mk H
                   clear H
                   obtain ⟨z31_0, z31_1, z31_2, z31_3, z31_4, z31_5, z31_6⟩ := Sq.c7 BK136.out
                   obtain ⟨y31_0, y31_1, y31_2, y31_3, y31_4, y31_5, y31_6⟩ := Sq.f7 BK136.out
                   have p142 : 0 ≤ (x10_4 : Int) := of_decide_eq_true (by first | (with_reducible assumption) | assumption)
                   have q142 : x10_4 < (((rd_T30 l0 x3_1).f4).length : Int) := of_decide_eq_true (by first | (with_reducible assumption) | assumption)
                   obtain ⟨ad142, A142_1, c142_1, e142, hx142_0, hx142_1, hl142_1, hi142_1⟩ := at_T25 HR135_5.out x10_4 p142 q142
                   cases e142
                   replace hx142_0 := (HB.out.cell (World.block_lt_of_cell? w _ hx142_0)).trans hx142_0
                   replace hx142_1 := (HB.out.cell (World.block_lt_of_cell? w _ hx142_1)).trans hx142_1
                   have HR142_1 := Aside0.mk hi142_1
                   have HC142_1 := Aside0.mk hl142_1
                   clear hi142_1 hl142_1
                   replace p142 := eq_true p142
                   replace q142 := eq_true q142
                   go_wp2_with (first | ((with_reducible refine gate_callee (f := 8) rfl ?_); refine goesL_ (some 60) rfl rfl Try.func8 (by kernel_rfl) rfl #[.agg #[.int .i64 ((rd_T25 ((rd_T30 l0 x3_1).f4) x10_4).f0), .slice A142_1 ((rd_T25 ((rd_T30 l0 x3_1).f4) x10_4).f1).length c142_1]] rfl Sq.m ?_; (with_reducible refine (log_Pack.calls k4 ((rd_T25 ((rd_T30 l0 x3_1).f4) x10_4).f0) _ _ ((rd_T25 ((rd_T30 l0 x3_1).f4) x10_4).f1) t143 t146 _ ?side1 ?side2 A27.out).mono ?_); (case side1 => repeat (first | exact (Kd.C_below HR142_1.out HB.out) | (with_reducible refine Kd.C_alloc ?_ _) | (with_reducible refine Kd.C_drewN ?_ _) | (with_reducible refine Kd.C_drew ?_))); (case side2 => exact HC142_1.out); rintro e w32 ⟨v144, rfl, ho0, hb⟩; refine ⟨_, rfl, ?_⟩; have HO145 := Aside0.mk (Kd.R_lower (Kd.R_new' ho0 (Kd.R_lt (Sq.rR HO_5.out))) (below_size (Sq.w HB.out))); replace HO_5 := Aside0.mk (Kd.R_elder' (Sq.rR HO_5.out) (Kd.R_base ho0) hb); replace HO_8 := Sq.sS HO_8 hb; replace BK136 := Sq.sb BK136 hb; replace HB := Sq.sw HB hb; (try clear hb); (try clear hb2); (try clear hk); (try clear hi); (try clear ho0)) | ((with_reducible refine gate_callee (f := 9) rfl ?_); refine goesL_ (some 64) rfl rfl Try.func9 (by kernel_rfl) rfl #[.int .i64 t146] rfl Sq.m ?_; (with_reducible refine (gimballaw30_num.calls t146 t147 _ A28.out).mono ?_); rintro e w' ⟨rfl, ⟨nd, rfl⟩⟩; refine ⟨_, rfl, ?_⟩; obtain ⟨Ao33, co33, eo33⟩ := Kd.R_slice HO145.out; subst eo33))
                   (try simp only [← hl5_4])
                   refine Cu.handed k4 (by have := HK1.out; have := HJ1.out; have := HK3.out; have := HK4.out; omega) (by assumption) ?_ (by kernel_rfl) (by kernel_rfl)
                   try dsimp only [Cu.pick, Cu.nth]
                   exact ⟨(x5_4), (x7_4), (x8_4), (x9_4), (wrap64 (x10_4 + 1)), Sq.e, Sq.e, Sq.e, H', ⟨by have := HK1.out; have := HJ1.out; have := HK3.out; have := HK4.out; omega⟩, ⟨by (try simp only [hl5_4]); (with_reducible repeat (first | apply Kd.R_alloc | apply Kd.R_drewN | apply Kd.R_drew)); exact Kd.R_mono HO_5.out (fun _ hk => trivial)⟩, ⟨by (try simp only [hl5_4]); (with_reducible repeat (first | apply Kd.S_alloc | apply Kd.S_drewN | apply Kd.S_drew)); exact HO_8.out⟩, ⟨by (try simp only [hl5_4]); (with_reducible repeat (first | refine blk_drewN ?_ _ | refine blk_drew ?_ | refine blk_alloc ?_ _)); exact BK136.out⟩, ⟨Sq.w HB.out⟩⟩
                  ·rw [if_neg c30] at H
                   have c30b0 : decide (256 < (wrap64 (x7_4 + (t143.length : Int)))) = false := decide_eq_false c30
                   clear c30
                   by_cases c34 : 0 ≤ x7_4
                   ·rw [if_pos c34] at H
                    have c34b0 := eq_true c34
                    have c34b1 : decide (0 ≤ x7_4) = true := decide_eq_true c34
                    clear c34
                    by_cases c35 : x7_4 ≤ (x5_4.length : Int)
                    ·rw [if_pos c35] at H
                     have c35b0 := eq_true c35
                     have c35b1 : decide (x7_4 ≤ (x5_4.length : Int)) = true := decide_eq_true c35
                     clear c35
                     obtain ⟨y148, hy148⟩ : ∃ y_ : List Int, y_ = (x5_4.drop (x7_4 : Int).toNat) := ⟨_, rfl⟩
                     replace H : (if x8_4.length < 4398046511104 then (gimballaw30_LogRows.l2 k4 l0 x3_1 (copyIn x5_4 (x7_4 : Int).toNat t143) (wrap64 (x7_4 + (t143.length : Int))) (x8_4 ++ [(⟨(rd_T25 ((rd_T30 l0 x3_1).f4) x10_4).f0, (rd_T25 ((rd_T30 l0 x3_1).f4) x10_4).f1⟩ : S25)]) x7_4 (wrap64 (x10_4 + 1)) ((rd_T30 l0 x3_1).f0.f0) ((rd_T30 l0 x3_1).f0.f1) ((rd_T30 l0 x3_1).f1) ((rd_T30 l0 x3_1).f2) ((rd_T30 l0 x3_1).f3) ((rd_T30 l0 x3_1).f4) ((rd_T30 l0 x3_1).f5)) else (none)) = some r := by first | (rw [hy148]; with_reducible exact H) | (have H2_ := (Option.bind_some _ _).symm.trans H; rw [hy148]; with_reducible exact H2_) | (have H2_ := (Option.bind_some _ _).symm.trans H; with_reducible exact H2_) | with_reducible exact H | (rw [hy148]; exact H) | exact H
                     have Ny148 := Aside0.mk hy148
                     clear hy148
                     obtain ⟨y152, hy152⟩ : ∃ y_ : List Int, y_ = (copyIn x5_4 (x7_4 : Int).toNat t143) := ⟨_, rfl⟩
                     replace H : (if x8_4.length < 4398046511104 then (gimballaw30_LogRows.l2 k4 l0 x3_1 y152 (wrap64 (x7_4 + (t143.length : Int))) (x8_4 ++ [(⟨(rd_T25 ((rd_T30 l0 x3_1).f4) x10_4).f0, (rd_T25 ((rd_T30 l0 x3_1).f4) x10_4).f1⟩ : S25)]) x7_4 (wrap64 (x10_4 + 1)) ((rd_T30 l0 x3_1).f0.f0) ((rd_T30 l0 x3_1).f0.f1) ((rd_T30 l0 x3_1).f1) ((rd_T30 l0 x3_1).f2) ((rd_T30 l0 x3_1).f3) ((rd_T30 l0 x3_1).f4) ((rd_T30 l0 x3_1).f5)) else (none)) = some r := by first | (rw [hy152]; with_reducible exact H) | (have H2_ := (Option.bind_some _ _).symm.trans H; rw [hy152]; with_reducible exact H2_) | (have H2_ := (Option.bind_some _ _).symm.trans H; with_reducible exact H2_) | with_reducible exact H | (rw [hy152]; exact H) | exact H
                     have Ny152 := Aside0.mk hy152
                     clear hy152
                     by_cases c36 : x8_4.length < 4398046511104
                     ·rw [if_pos c36] at H
                      have LMc36 := Aside0.mk c36
                      clear c36
                      obtain ⟨y154, hy154⟩ : ∃ y_ : List (S25), y_ = (x8_4 ++ [(⟨(rd_T25 ((rd_T30 l0 x3_1).f4) x10_4).f0, (rd_T25 ((rd_T30 l0 x3_1).f4) x10_4).f1⟩ : S25)]) := ⟨_, rfl⟩
                      replace H : (gimballaw30_LogRows.l2 k4 l0 x3_1 y152 (wrap64 (x7_4 + (t143.length : Int))) y154 x7_4 (wrap64 (x10_4 + 1)) ((rd_T30 l0 x3_1).f0.f0) ((rd_T30 l0 x3_1).f0.f1) ((rd_T30 l0 x3_1).f1) ((rd_T30 l0 x3_1).f2) ((rd_T30 l0 x3_1).f3) ((rd_T30 l0 x3_1).f4) ((rd_T30 l0 x3_1).f5)) = some r := by first | (rw [hy154]; with_reducible exact H) | (have H2_ := (Option.bind_some _ _).symm.trans H; rw [hy154]; with_reducible exact H2_) | (have H2_ := (Option.bind_some _ _).symm.trans H; with_reducible exact H2_) | with_reducible exact H | (rw [hy154]; exact H) | exact H
                      have Ny154 := Aside0.mk hy154
                      clear hy154
                      have H' := Aside0.mk H
                      clear H
                      obtain ⟨z37_0, z37_1, z37_2, z37_3, z37_4, z37_5, z37_6⟩ := Sq.c7 BK136.out
                      obtain ⟨y37_0, y37_1, y37_2, y37_3, y37_4, y37_5, y37_6⟩ := Sq.f7 BK136.out
                      have p142 : 0 ≤ (x10_4 : Int) := of_decide_eq_true (by first | (with_reducible assumption) | assumption)
                      have q142 : x10_4 < (((rd_T30 l0 x3_1).f4).length : Int) := of_decide_eq_true (by first | (with_reducible assumption) | assumption)
                      obtain ⟨ad142, A142_1, c142_1, e142, hx142_0, hx142_1, hl142_1, hi142_1⟩ := at_T25 HR135_5.out x10_4 p142 q142
                      cases e142
                      replace hx142_0 := (HB.out.cell (World.block_lt_of_cell? w _ hx142_0)).trans hx142_0
                      replace hx142_1 := (HB.out.cell (World.block_lt_of_cell? w _ hx142_1)).trans hx142_1
                      have HR142_1 := Aside0.mk hi142_1
                      have HC142_1 := Aside0.mk hl142_1
                      clear hi142_1 hl142_1
                      replace p142 := eq_true p142
                      replace q142 := eq_true q142
                      go_wp2_with (first | ((with_reducible refine gate_callee (f := 8) rfl ?_); refine goesL_ (some 60) rfl rfl Try.func8 (by kernel_rfl) rfl #[.agg #[.int .i64 ((rd_T25 ((rd_T30 l0 x3_1).f4) x10_4).f0), .slice A142_1 ((rd_T25 ((rd_T30 l0 x3_1).f4) x10_4).f1).length c142_1]] rfl Sq.m ?_; (with_reducible refine (log_Pack.calls k4 ((rd_T25 ((rd_T30 l0 x3_1).f4) x10_4).f0) _ _ ((rd_T25 ((rd_T30 l0 x3_1).f4) x10_4).f1) t143 t146 _ ?side1 ?side2 A27.out).mono ?_); (case side1 => repeat (first | exact (Kd.C_below HR142_1.out HB.out) | (with_reducible refine Kd.C_alloc ?_ _) | (with_reducible refine Kd.C_drewN ?_ _) | (with_reducible refine Kd.C_drew ?_))); (case side2 => exact HC142_1.out); rintro e w38 ⟨v144, rfl, ho0, hb⟩; refine ⟨_, rfl, ?_⟩; have HO145 := Aside0.mk (Kd.R_lower (Kd.R_new' ho0 (Kd.R_lt (Sq.rR HO_5.out))) (below_size (Sq.w HB.out))); replace HO_5 := Aside0.mk (Kd.R_elder' (Sq.rR HO_5.out) (Kd.R_base ho0) hb); replace HO_8 := Sq.sS HO_8 hb; replace BK136 := Sq.sb BK136 hb; replace HB := Sq.sw HB hb; (try clear hb); (try clear hb2); (try clear hk); (try clear hi); (try clear ho0)) | ((with_reducible refine gate_callee (f := 9) rfl ?_); refine goesL_ (some 64) rfl rfl Try.func9 (by kernel_rfl) rfl #[.int .i64 t146] rfl Sq.m ?_; (with_reducible refine (gimballaw30_num.calls t146 t147 _ A28.out).mono ?_); rintro e w' ⟨rfl, ⟨nd, rfl⟩⟩; refine ⟨_, rfl, ?_⟩; (try (rw [drewN_self w38]; generalize hq_ : World.drewN w38 _ = w38; have n0_ : Aside0 (Kd.R (Kd.int .u32) 26 w38 w.heap.size (fun k_ => some k_ ≠ (.slice Ao24 x5_4.length co24 : Value).ownBlock) v144 t143) := ⟨by rw [← hq_]; exact (Sq.rR (Kd.R_mono HO145.out (fun _ hk => hk.2)))⟩; have n1_ : Aside0 (Kd.R (Kd.int .u32) 26 w38 w.heap.size (fun k_ => some k_ ≠ (v144 : Value).ownBlock) (.slice Ao24 x5_4.length co24) x5_4) := ⟨by rw [← hq_]; exact (Sq.rR (Kd.R_mono HO_5.out (fun _ hk => hk.2)))⟩; have n2_ : Aside0 (Kd.S (Ho.km k25 w) 25 w38 w.heap.size (fun _ => True) u8 x8_4) := ⟨by rw [← hq_]; exact (Sq.rS HO_8.out)⟩; have n3_ : Aside0 (w38.heap[gb136]? = some (.cells #[.int .i64 ((rd_T30 l0 x3_1).f0.f0), .slice A135_1 ((rd_T30 l0 x3_1).f0.f1).length c135_1, .int .i64 ((rd_T30 l0 x3_1).f1), .int .u32 ((rd_T30 l0 x3_1).f2), .slice A135_4 ((rd_T30 l0 x3_1).f3).length c135_4, .slice (some ad142) ((rd_T30 l0 x3_1).f4).length c135_5, .int .i64 ((rd_T30 l0 x3_1).f5)] 30 (0, 0))) := ⟨by rw [← hq_]; exact (Sq.b BK136.out)⟩; have n4_ : Aside0 (Below w.heap.size w w38) := ⟨by rw [← hq_]; exact (Sq.w HB.out)⟩; clear HO145 HO_5 HO_8 BK136 HB hq_; have HO145 := n0_; have HO_5 := n1_; have HO_8 := n2_; have BK136 := n3_; have HB := n4_; clear n0_ n1_ n2_ n3_ n4_)); obtain ⟨Ao39, co39, eo39⟩ := Kd.R_slice HO145.out; subst eo39; have q40 : (x7_4 : Int) ≤ ((x5_4.length : Int) : Int) := of_decide_eq_true (by first | (with_reducible assumption) | assumption); obtain ⟨i040, hi040, _, hsz40, _⟩ := info_parts info26; have hroom40 : x5_4.length ≤ co24 := (Kd.R_reads' HO_5.out).2.1; have hC40 : Kd.C (Kd.int .u32) _ Ao24 x5_4.length x5_4 := (Kd.R_reads' HO_5.out).2.2; have q040 : (0 : Int) ≤ (x7_4 : Int) := of_decide_eq_true (by first | (with_reducible assumption) | assumption); have hcut40 := cut_from (P := Try.prog) 27 26 .i64 Try.underlying27 hi040 1 hsz40 Ao24 x5_4.length co24 x7_4 q040 q40; have hr40 := Kd.C_drop (m := (x7_4 : Int).toNat) (c := co24) hC40 (by omega) hroom40; obtain ⟨A40, hA40⟩ : ∃ A1, A1 = (if co24 = (x7_4 : Int).toNat then Ao24 else (Ao24 : Option Addr).map (·.add ((x7_4 : Int).toNat * 1))) := ⟨_, rfl⟩; obtain ⟨c40, hc40⟩ : ∃ c1, c1 = co24 - (x7_4 : Int).toNat := ⟨_, rfl⟩; have hy40 : y148.length = x5_4.length - (x7_4 : Int).toNat := (by rw [Ny148.out, List.length_drop] <;> omega); rw [show (x5_4).drop (x7_4 : Int).toNat = y148 from Ny148.out.symm] at hr40; replace hr40 : Kd.C (Kd.int .u32) _ A40 y148.length y148 := (by rw [hA40]; exact hr40); rw [← hy40, ← hA40, ← hc40] at hcut40; have HR151 := Aside0.mk hr40; have HC151 := Aside0.mk (show y148.length ≤ c40 from by rw [hy40, hc40]; exact Nat.sub_le_sub_right hroom40 _); clear hr40 hC40 hroom40 hi040 hsz40 hc40; have KY40 := Aside0.mk hy40; have KA40 := Aside0.mk hA40; clear hy40 hA40; have KL40 := Aside0.mk (show (x7_4 : Int).toNat ≤ x5_4.length from by omega); replace q40 := eq_true q40; have n_ := Aside0.mk (Kd.R_mono (ok' := (fun k_ => some k_ ≠ (.slice Ao39 t143.length co39 : Value).ownBlock)) HO_5.out (fun k_ hk => (by first | exact hk.2 | exact hk))); clear HO_5; have HO_5 := n_; clear n_) | ((with_reducible refine gate_builtin (b := .copy) (xs := #[.tmp 76, .tmp 77]) rfl ?_); (try (refine gate_guard (by rfl) ?_; dsimp only)); refine Kd.R_copy_cut (enc := Value.int .u32) (h1 := fun _ => rfl) (0 : Int) (w0 := w) w.heap.size rfl (.tmp 76) (.tmp 77) 27 27 26 rfl Try.underlying27 ?iT x5_4 t143 Ao24 A40 _ x5_4.length _ co24 _ (x7_4 : Int).toNat _ _ (fun k_ => some k_ ≠ (.slice Ao39 t143.length co39 : Value).ownBlock) rfl rfl ?cN KA40.out ?cL ?cO ?aO ?aR ?aB ?aS ?_; (case iT => kernel_rfl); (case cN => first | rfl | exact (Kd.R_reads' HO_5.out).1 | exact (Kd.R_reads' HO_5.out).1.symm); (case cL => first | exact KY40.out | (have hz_ := (Kd.R_reads' HO_5.out).1; have hy_ := KY40.out; omega)); (case cO => have hz_ := (Kd.R_reads' HO_5.out).1; first | exact KL40.out | omega); (case aO => exact (Sq.rR HO_5.out)); (case aR => repeat (first | exact (Kd.R_reads' HO145.out).2.2 | (with_reducible refine Kd.C_alloc ?_ _) | (with_reducible refine Kd.C_drewN ?_ _) | (with_reducible refine Kd.C_drew ?_))); (case aB => exact (Sq.w HB.out)); (case aS => exact (below_size (Sq.w HB.out))); intro w41 ho hb hg; rw [← Ny152.out] at ho; have n0_ := Aside0.mk (ho); have n1_ := Aside0.mk (Kd.S_over' (v := (.slice Ao24 x5_4.length co24)) (Sq.rS HO_8.out) (Kd.R_typed HO_5.out) (Ho.kmE (by decide)) hg); have n2_ := Aside0.mk (blk_grown (g := gb136) (o := .cells #[.int .i64 ((rd_T30 l0 x3_1).f0.f0), .slice A135_1 ((rd_T30 l0 x3_1).f0.f1).length c135_1, .int .i64 ((rd_T30 l0 x3_1).f1), .int .u32 ((rd_T30 l0 x3_1).f2), .slice A135_4 ((rd_T30 l0 x3_1).f3).length c135_4, .slice (some ad142) ((rd_T30 l0 x3_1).f4).length c135_5, .int .i64 ((rd_T30 l0 x3_1).f5)] 30 (0, 0)) (Sq.b BK136.out) hg (Kd.R_ne HO_5.out BK136.out (by decide))); have n3_ := Aside0.mk (Kd.R_after (v := (.slice Ao24 x5_4.length co24)) (v1 := (.slice Ao24 x5_4.length co24)) (ok := (fun _ => True)) (Sq.rR (Kd.R_mono HO145.out (fun k_ hk => (by first | exact hk | exact ⟨trivial, hk⟩)))) hg (.inl rfl)); have n4_ := Aside0.mk (hb); clear HO_5; clear HO_8; clear BK136; clear HO145; clear HB; have HO_5 := n0_; have HO_8 := n1_; have BK136 := n2_; have HO145 := n3_; have HB := n4_; clear n0_ n1_ n2_ n3_ n4_; clear hb hg ho; obtain ⟨z42_0, z42_1, z42_2, z42_3, z42_4, z42_5, z42_6⟩ := Sq.c7 BK136.out; obtain ⟨y42_0, y42_1, y42_2, y42_3, y42_4, y42_5, y42_6⟩ := Sq.f7 BK136.out; have p153 : 0 ≤ (x10_4 : Int) := of_decide_eq_true (by first | (with_reducible assumption) | assumption); have q153 : x10_4 < (((rd_T30 l0 x3_1).f4).length : Int) := of_decide_eq_true (by first | (with_reducible assumption) | assumption); obtain ⟨ad153, A153_1, c153_1, e153, hx153_0, hx153_1, hl153_1, hi153_1⟩ := at_T25 HR135_5.out x10_4 p153 q153; obtain rfl : ad142 = ad153 := (by injection e153); replace hx153_0 := (HB.out.cell (World.block_lt_of_cell? w _ hx153_0)).trans hx153_0; replace hx153_1 := (HB.out.cell (World.block_lt_of_cell? w _ hx153_1)).trans hx153_1; have HR153_1 := Aside0.mk hi153_1; have HC153_1 := Aside0.mk hl153_1; clear hi153_1 hl153_1; replace p153 := eq_true p153; replace q153 := eq_true q153) | ((with_reducible refine gate_builtin (b := .append) (xs := #[.tmp 83, .tmp 89]) rfl ?_); (try (refine gate_guard (by rfl) ?_; dsimp only)); at_builtin; refine Kd.S_append (Ho.km k25 w) (w0 := w) w.heap.size rfl (.tmp 83) (.tmp 89) 28 25 (.agg #[(.int .i64 0), (.slice none 0 0)]) 32 rfl Try.underlying28 info25 rfl (show 0 < k25.sz from by decide) (by omega) u8 x8_4 (⟨(rd_T25 ((rd_T30 l0 x3_1).f4) x10_4).f0, (rd_T25 ((rd_T30 l0 x3_1).f4) x10_4).f1⟩ : S25) [.int .i64 ((rd_T25 ((rd_T30 l0 x3_1).f4) x10_4).f0), .slice A153_1 ((rd_T25 ((rd_T30 l0 x3_1).f4) x10_4).f1).length c153_1] (fun _ => True) (fun _ => False) rfl rfl ?aP (fun _ hk => hk.elim) ?aF ?aO ?aB ?aS ?aL ?_; (case aP => exact .inl (k25_mk w (⟨(rd_T25 ((rd_T30 l0 x3_1).f4) x10_4).f0, (rd_T25 ((rd_T30 l0 x3_1).f4) x10_4).f1⟩ : S25) HC153_1.out HR153_1.out)); (case aB => exact (Sq.w HB.out)); (case aF => exact (fun _ _ => trivial)); (case aO => exact (Sq.rS (Kd.S_mono HO_8.out (fun k_ hk => ⟨trivial, fun e_ => e_⟩)))); (case aS => exact (below_size (Sq.w HB.out))); (case aL => have := LMc36.out; omega); intro v155 w43 ho hb hg hat; rw [← Ny154.out] at ho; have HO156 := Aside0.mk (ho); replace HO_5 := Aside0.mk (Kd.R_over' (Sq.rR HO_5.out) (Kd.S_typed (Sq.rS HO_8.out)) (by decide) hg); replace BK136 := Aside0.mk (blk_grown (g := gb136) (o := .cells #[.int .i64 ((rd_T30 l0 x3_1).f0.f0), .slice A135_1 ((rd_T30 l0 x3_1).f0.f1).length c135_1, .int .i64 ((rd_T30 l0 x3_1).f1), .int .u32 ((rd_T30 l0 x3_1).f2), .slice A135_4 ((rd_T30 l0 x3_1).f3).length c135_4, .slice (some ad142) ((rd_T30 l0 x3_1).f4).length c135_5, .int .i64 ((rd_T30 l0 x3_1).f5)] 30 (0, 0)) (Sq.b BK136.out) hg (Kd.S_ne HO_8.out BK136.out (by decide))); replace HO145 := Aside0.mk (Kd.R_over' (Sq.rR HO145.out) (Kd.S_typed (Sq.rS HO_8.out)) (by decide) hg); replace HB := Aside0.mk (hb); clear HO_8; clear ho hb hg hat))
                      (try simp only [← hl5_4])
                      refine Cu.handed k4 (by have := HK1.out; have := HJ1.out; have := HK3.out; have := HK4.out; omega) (by assumption) ?_ (by kernel_rfl) (by kernel_rfl)
                      try dsimp only [Cu.pick, Cu.nth]
                      exact ⟨(y152), (wrap64 (x7_4 + (t143.length : Int))), (y154), (x7_4), (wrap64 (x10_4 + 1)), Sq.e, Sq.e, Sq.e, H', ⟨by have := HK1.out; have := HJ1.out; have := HK3.out; have := HK4.out; omega⟩, ⟨by (try simp only [hl5_4]); (with_reducible repeat (first | apply Kd.R_alloc | apply Kd.R_drewN | apply Kd.R_drew)); exact Kd.R_mono HO_5.out (fun _ hk => trivial)⟩, ⟨by (try simp only [hl5_4]); (with_reducible repeat (first | apply Kd.S_alloc | apply Kd.S_drewN | apply Kd.S_drew)); exact HO156.out⟩, ⟨by (try simp only [hl5_4]); (with_reducible repeat (first | refine blk_drewN ?_ _ | refine blk_drew ?_ | refine blk_alloc ?_ _)); exact BK136.out⟩, ⟨Sq.w HB.out⟩⟩
                     ·rw [if_neg c36] at H
                      exact absurd H (by simp)
                    ·rw [if_neg c35] at H
                     exact absurd H (by simp)
                   ·rw [if_neg c34] at H
                    exact absurd H (by simp)
                 ·rw [if_neg c29] at H
                  have c29b0 : (t147 == 0) = false := beq_eq_false_iff_ne.mpr c29
                  have c29b1 : (t147 != 0) = true := bne_iff_ne.mpr c29
                  have H' := Aside0.mk H
                  clear H
                  obtain ⟨z44_0, z44_1, z44_2, z44_3, z44_4, z44_5, z44_6⟩ := Sq.c7 BK136.out
                  obtain ⟨y44_0, y44_1, y44_2, y44_3, y44_4, y44_5, y44_6⟩ := Sq.f7 BK136.out
                  have p142 : 0 ≤ (x10_4 : Int) := of_decide_eq_true (by first | (with_reducible assumption) | assumption)
                  have q142 : x10_4 < (((rd_T30 l0 x3_1).f4).length : Int) := of_decide_eq_true (by first | (with_reducible assumption) | assumption)
                  obtain ⟨ad142, A142_1, c142_1, e142, hx142_0, hx142_1, hl142_1, hi142_1⟩ := at_T25 HR135_5.out x10_4 p142 q142
                  cases e142
                  replace hx142_0 := (HB.out.cell (World.block_lt_of_cell? w _ hx142_0)).trans hx142_0
                  replace hx142_1 := (HB.out.cell (World.block_lt_of_cell? w _ hx142_1)).trans hx142_1
                  have HR142_1 := Aside0.mk hi142_1
                  have HC142_1 := Aside0.mk hl142_1
                  clear hi142_1 hl142_1
                  replace p142 := eq_true p142
                  replace q142 := eq_true q142
                  go_wp2_with (first | ((with_reducible refine gate_callee (f := 8) rfl ?_); refine goesL_ (some 60) rfl rfl Try.func8 (by kernel_rfl) rfl #[.agg #[.int .i64 ((rd_T25 ((rd_T30 l0 x3_1).f4) x10_4).f0), .slice A142_1 ((rd_T25 ((rd_T30 l0 x3_1).f4) x10_4).f1).length c142_1]] rfl Sq.m ?_; (with_reducible refine (log_Pack.calls k4 ((rd_T25 ((rd_T30 l0 x3_1).f4) x10_4).f0) _ _ ((rd_T25 ((rd_T30 l0 x3_1).f4) x10_4).f1) t143 t146 _ ?side1 ?side2 A27.out).mono ?_); (case side1 => repeat (first | exact (Kd.C_below HR142_1.out HB.out) | (with_reducible refine Kd.C_alloc ?_ _) | (with_reducible refine Kd.C_drewN ?_ _) | (with_reducible refine Kd.C_drew ?_))); (case side2 => exact HC142_1.out); rintro e w45 ⟨v144, rfl, ho0, hb⟩; refine ⟨_, rfl, ?_⟩; have HO145 := Aside0.mk (Kd.R_lower (Kd.R_new' ho0 (Kd.R_lt (Sq.rR HO_5.out))) (below_size (Sq.w HB.out))); replace HO_5 := Aside0.mk (Kd.R_elder' (Sq.rR HO_5.out) (Kd.R_base ho0) hb); replace HO_8 := Sq.sS HO_8 hb; replace BK136 := Sq.sb BK136 hb; replace HB := Sq.sw HB hb; (try clear hb); (try clear hb2); (try clear hk); (try clear hi); (try clear ho0)) | ((with_reducible refine gate_callee (f := 9) rfl ?_); refine goesL_ (some 64) rfl rfl Try.func9 (by kernel_rfl) rfl #[.int .i64 t146] rfl Sq.m ?_; (with_reducible refine (gimballaw30_num.calls t146 t147 _ A28.out).mono ?_); rintro e w' ⟨rfl, ⟨nd, rfl⟩⟩; refine ⟨_, rfl, ?_⟩))
                  (try simp only [← hl5_4])
                  refine Cu.handed k4 (by have := HK1.out; have := HJ1.out; have := HK3.out; have := HK4.out; omega) (by assumption) ?_ (by kernel_rfl) (by kernel_rfl)
                  try dsimp only [Cu.pick, Cu.nth]
                  exact ⟨(x5_4), (x7_4), (x8_4), (x9_4), (wrap64 (x10_4 + 1)), Sq.e, Sq.e, Sq.e, H', ⟨by have := HK1.out; have := HJ1.out; have := HK3.out; have := HK4.out; omega⟩, ⟨by (try simp only [hl5_4]); (with_reducible repeat (first | apply Kd.R_alloc | apply Kd.R_drewN | apply Kd.R_drew)); exact Kd.R_mono HO_5.out (fun _ hk => trivial)⟩, ⟨by (try simp only [hl5_4]); (with_reducible repeat (first | apply Kd.S_alloc | apply Kd.S_drewN | apply Kd.S_drew)); exact HO_8.out⟩, ⟨by (try simp only [hl5_4]); (with_reducible repeat (first | refine blk_drewN ?_ _ | refine blk_drew ?_ | refine blk_alloc ?_ _)); exact BK136.out⟩, ⟨Sq.w HB.out⟩⟩
                ·rw [if_neg c26] at H
                 exact absurd H (by simp)
               ·rw [if_neg c25] at H
                have c25b0 : decide (x10_4 < (((rd_T30 l0 x3_1).f4).length : Int)) = false := decide_eq_false c25
                clear c25
                replace H := Option.bind_eq_some_iff.mp H
                obtain ⟨⟨t157, t158, t159⟩, A460, H⟩ := H
                replace H : ((gimballaw30_num.f t159).bind fun t162 => (if t162 = 0 then (if t158 = x7_4 then ((gimbalref0_EqEntries.f k4 t157 x8_4).bind fun t163 => (gimballaw30_LogRows.j4 k4 l0 x3_1 x5_4 x7_4 x8_4 x9_4 (!t163) ((rd_T30 l0 x3_1).f0.f0) ((rd_T30 l0 x3_1).f0.f1) ((rd_T30 l0 x3_1).f1) ((rd_T30 l0 x3_1).f2) ((rd_T30 l0 x3_1).f3) ((rd_T30 l0 x3_1).f4) ((rd_T30 l0 x3_1).f5))) else (gimballaw30_LogRows.j4 k4 l0 x3_1 x5_4 x7_4 x8_4 x9_4 true ((rd_T30 l0 x3_1).f0.f0) ((rd_T30 l0 x3_1).f0.f1) ((rd_T30 l0 x3_1).f1) ((rd_T30 l0 x3_1).f2) ((rd_T30 l0 x3_1).f3) ((rd_T30 l0 x3_1).f4) ((rd_T30 l0 x3_1).f5))) else (gimballaw30_LogRows.j4 k4 l0 x3_1 x5_4 x7_4 x8_4 x9_4 true ((rd_T30 l0 x3_1).f0.f0) ((rd_T30 l0 x3_1).f0.f1) ((rd_T30 l0 x3_1).f1) ((rd_T30 l0 x3_1).f2) ((rd_T30 l0 x3_1).f3) ((rd_T30 l0 x3_1).f4) ((rd_T30 l0 x3_1).f5)))) = some r := H
                have A46 := Aside0.mk A460
                clear A460
                have HC47 := Aside0.mk H
                clear H
                obtain ⟨z48_0, z48_1, z48_2, z48_3, z48_4, z48_5, z48_6⟩ := Sq.c7 BK136.out
                obtain ⟨y48_0, y48_1, y48_2, y48_3, y48_4, y48_5, y48_6⟩ := Sq.f7 BK136.out
                go_upto_region 25 with (first | ((with_reducible refine gate_callee (f := 10) rfl ?_); refine goesL_ (some 93) rfl rfl Try.func10 (by kernel_rfl) rfl #[.slice Ao24 x5_4.length co24] rfl Sq.m ?_; (with_reducible refine (log_Scan.calls _ _ x5_4 t157 t158 t159 _ ?side1 ?side2 A46.out).mono ?_); (case side1 => repeat (first | exact (Kd.R_reads' HO_5.out).2.2 | (with_reducible refine Kd.C_alloc ?_ _) | (with_reducible refine Kd.C_drewN ?_ _) | (with_reducible refine Kd.C_drew ?_))); (case side2 => exact (Kd.R_reads' HO_5.out).2.1); rintro e w49 ⟨v160, rfl, ho0, hb⟩; refine ⟨_, rfl, ?_⟩; have HO161 := Aside0.mk (Kd.S_lower (Kd.S_new' ho0 (Kd.S_lt (Sq.rS HO_8.out))) (below_size (Sq.w HB.out))); replace HO_5 := Sq.sR HO_5 hb; replace HO_8 := Aside0.mk (Kd.S_elder' (Sq.rS HO_8.out) (Kd.S_base ho0) hb); replace BK136 := Sq.sb BK136 hb; replace HB := Sq.sw HB hb; ))
                (try simp only [Act.put, List.setIfInBounds_toArray, List.set_cons_zero, List.set_cons_succ])
                refine Cu.wp_cut (Cu.f :: Cu.f :: Cu.f :: Cu.f :: Cu.f :: Cu.f :: Cu.f :: Cu.f :: Cu.f :: Cu.f :: Cu.f :: Cu.f :: Cu.f :: Cu.f :: Cu.f :: Cu.f :: Cu.f :: Cu.f :: Cu.f :: Cu.f :: Cu.f :: Cu.t :: Cu.t :: Cu.t :: Cu.t :: Cu.t :: Cu.t :: Cu.t :: Cu.t :: Cu.t :: Cu.t :: Cu.t :: Cu.t :: Cu.t :: Cu.t :: Cu.t :: Cu.t :: Cu.t :: Cu.t :: Cu.t :: Cu.t :: Cu.t :: Cu.t :: Cu.t :: Cu.t :: Cu.t :: Cu.t :: Cu.t :: Cu.t :: Cu.t :: Cu.t :: Cu.t :: Cu.t :: Cu.t :: Cu.t :: Cu.t :: Cu.t :: Cu.t :: Cu.t :: Cu.t :: Cu.t :: Cu.t :: Cu.t :: Cu.t :: Cu.t :: Cu.t :: Cu.t :: Cu.t :: Cu.t :: Cu.t :: Cu.t :: Cu.t :: Cu.t :: Cu.t :: Cu.t :: Cu.t :: Cu.t :: Cu.t :: Cu.t :: Cu.t :: Cu.t :: Cu.t :: Cu.t :: Cu.t :: Cu.t :: Cu.t :: Cu.t :: Cu.t :: Cu.t :: Cu.t :: Cu.t :: Cu.t :: Cu.t :: Cu.t :: Cu.t :: Cu.t :: Cu.t :: Cu.t :: Cu.t :: Cu.t :: Cu.t :: Cu.t :: Cu.t :: Cu.t :: Cu.t :: Cu.t :: Cu.t :: Cu.t :: Cu.t :: Cu.t :: Cu.t :: Cu.t :: Cu.t :: Cu.t :: Cu.t :: Cu.t :: Cu.t :: Cu.t :: Cu.t :: Cu.t :: Cu.t :: Cu.t :: Cu.t :: Cu.t :: Cu.t :: Cu.t :: Cu.t :: Cu.t :: Cu.t :: Cu.t :: Cu.t :: Cu.t :: Cu.t :: Cu.t :: Cu.t :: Cu.t :: Cu.t :: Cu.t :: Cu.t :: Cu.t :: Cu.t :: Cu.t :: Cu.t :: Cu.t :: Cu.t :: Cu.t :: Cu.t :: Cu.t :: Cu.t :: Cu.t :: Cu.t :: Cu.f :: []) 130 (fun us_ wc => ∃ (kq : Nat) (x110_46 : Bool), (Cu.nth us_ 89) = .bool x110_46 ∧ Aside0 (gimballaw30_LogRows.j4 kq l0 x3_1 x5_4 x7_4 x8_4 x9_4 x110_46 ((rd_T30 l0 x3_1).f0.f0) ((rd_T30 l0 x3_1).f0.f1) ((rd_T30 l0 x3_1).f1) ((rd_T30 l0 x3_1).f2) ((rd_T30 l0 x3_1).f3) ((rd_T30 l0 x3_1).f4) ((rd_T30 l0 x3_1).f5) = some r) ∧ Aside0 (kq ≤ k4) ∧ Aside0 (Kd.R (Kd.int .u32) 26 wc w.heap.size (fun _ => True) (.slice Ao24 x5_4.length co24) x5_4) ∧ Aside0 (Kd.S (Ho.km k25 w) 25 wc w.heap.size (fun _ => True) u8 x8_4) ∧ Aside0 (wc.heap[gb136]? = some (.cells #[.int .i64 ((rd_T30 l0 x3_1).f0.f0), (.slice A135_1 ((rd_T30 l0 x3_1).f0.f1).length c135_1), .int .i64 ((rd_T30 l0 x3_1).f1), .int .u32 ((rd_T30 l0 x3_1).f2), (.slice A135_4 ((rd_T30 l0 x3_1).f3).length c135_4), (.slice A135_5 ((rd_T30 l0 x3_1).f4).length c135_5), .int .i64 ((rd_T30 l0 x3_1).f5)] 30 (0, 0))) ∧ Aside0 (Below w.heap.size w wc)) ?_ ?_
                ·
                 intro _ _ _ _
                 have H := HC47.out
                 clear HC47
                 replace H := Option.bind_eq_some_iff.mp H
                 obtain ⟨t162, A500, H⟩ := H
                 replace H : (if t162 = 0 then (if t158 = x7_4 then ((gimbalref0_EqEntries.f k4 t157 x8_4).bind fun t163 => (gimballaw30_LogRows.j4 k4 l0 x3_1 x5_4 x7_4 x8_4 x9_4 (!t163) ((rd_T30 l0 x3_1).f0.f0) ((rd_T30 l0 x3_1).f0.f1) ((rd_T30 l0 x3_1).f1) ((rd_T30 l0 x3_1).f2) ((rd_T30 l0 x3_1).f3) ((rd_T30 l0 x3_1).f4) ((rd_T30 l0 x3_1).f5))) else (gimballaw30_LogRows.j4 k4 l0 x3_1 x5_4 x7_4 x8_4 x9_4 true ((rd_T30 l0 x3_1).f0.f0) ((rd_T30 l0 x3_1).f0.f1) ((rd_T30 l0 x3_1).f1) ((rd_T30 l0 x3_1).f2) ((rd_T30 l0 x3_1).f3) ((rd_T30 l0 x3_1).f4) ((rd_T30 l0 x3_1).f5))) else (gimballaw30_LogRows.j4 k4 l0 x3_1 x5_4 x7_4 x8_4 x9_4 true ((rd_T30 l0 x3_1).f0.f0) ((rd_T30 l0 x3_1).f0.f1) ((rd_T30 l0 x3_1).f1) ((rd_T30 l0 x3_1).f2) ((rd_T30 l0 x3_1).f3) ((rd_T30 l0 x3_1).f4) ((rd_T30 l0 x3_1).f5))) = some r := H
                 have A50 := Aside0.mk A500
                 clear A500
                 by_cases c51 : t162 = 0
                 ·rw [if_pos c51] at H
                  have c51b0 : (t162 == 0) = true := beq_iff_eq.mpr c51
                  have c51b1 : (t162 != 0) = false := bne_eq_false_iff_eq.mpr c51
                  clear c51
                  (first | rw [c51b0] | (simp only [i64_w, i32_w]; rw [c51b0]) | skip)
                  by_cases c52 : t158 = x7_4
                  ·rw [if_pos c52] at H
                   have c52b0 : (t158 == x7_4) = true := beq_iff_eq.mpr c52
                   have c52b1 : (t158 != x7_4) = false := bne_eq_false_iff_eq.mpr c52
                   clear c52
                   replace H := Option.bind_eq_some_iff.mp H
                   obtain ⟨t163, A530, H⟩ := H
                   replace H : (gimballaw30_LogRows.j4 k4 l0 x3_1 x5_4 x7_4 x8_4 x9_4 (!t163) ((rd_T30 l0 x3_1).f0.f0) ((rd_T30 l0 x3_1).f0.f1) ((rd_T30 l0 x3_1).f1) ((rd_T30 l0 x3_1).f2) ((rd_T30 l0 x3_1).f3) ((rd_T30 l0 x3_1).f4) ((rd_T30 l0 x3_1).f5)) = some r := H
                   have A53 := Aside0.mk A530
                   clear A530
                   have H' := Aside0.mk H
                   clear H
                   go_wp2_with (first | ((with_reducible refine gate_callee (f := 9) rfl ?_); refine goesL_ (some 98) rfl rfl Try.func9 (by kernel_rfl) rfl #[.int .i64 t159] rfl Sq.m ?_; (with_reducible refine (gimballaw30_num.calls t159 t162 _ A50.out).mono ?_); rintro e w' ⟨rfl, ⟨nd, rfl⟩⟩; refine ⟨_, rfl, ?_⟩; obtain ⟨Ao54, co54, eo54⟩ := Kd.S_slice HO161.out; subst eo54; obtain ⟨Ao55, co55, eo55⟩ := Kd.S_slice HO_8.out; subst eo55) | (go_at_call 22; (with_reducible refine (gimbalref0_EqEntries.calls k4 _ _ t157 _ _ x8_4 t163 _ ?side1 ?side2 ?side3 ?side4 A53.out).mono ?_); (case side1 => repeat (first | exact (Kd.S_reads' HO161.out).2.2 | (with_reducible refine Kd.C_alloc ?_ _) | (with_reducible refine Kd.C_drewN ?_ _) | (with_reducible refine Kd.C_drew ?_))); (case side2 => exact (Kd.S_reads' HO161.out).2.1); (case side3 => repeat (first | exact (Ho.km_read HB.out (Kd.S_reads' HO_8.out).2.2) | (with_reducible refine Kd.C_alloc ?_ _) | (with_reducible refine Kd.C_drewN ?_ _) | (with_reducible refine Kd.C_drew ?_))); (case side4 => exact (Kd.S_reads' HO_8.out).2.1); rintro e w56 ⟨rfl, hb⟩; replace HO_5 := Sq.sR HO_5 hb; replace HO_8 := Sq.sS HO_8 hb; replace HO161 := Sq.sS HO161 hb; replace BK136 := Sq.sb BK136 hb; replace HB := Sq.sw HB hb; (try clear hb); (try clear hb2); (try clear hk); (try clear hi)))
                   refine Cu.meet (by assumption) ?_ (by kernel_rfl) (by kernel_rfl)
                   try dsimp only [Cu.pick, Cu.nth]
                   exact ⟨_, (!t163), Sq.e, H', ⟨by have := HK1.out; have := HJ1.out; have := HK3.out; have := HK4.out; first | omega | exact Nat.le_refl _⟩, ⟨by (try simp only [hl5_4]); (with_reducible repeat (first | apply Kd.R_alloc | apply Kd.R_drewN | apply Kd.R_drew)); exact HO_5.out⟩, ⟨by (try simp only [hl5_4]); (with_reducible repeat (first | apply Kd.S_alloc | apply Kd.S_drewN | apply Kd.S_drew)); exact Kd.S_mono HO_8.out (fun _ hk => trivial)⟩, ⟨by (try simp only [hl5_4]); (with_reducible repeat (first | refine blk_drewN ?_ _ | refine blk_drew ?_ | refine blk_alloc ?_ _)); exact BK136.out⟩, ⟨Sq.w HB.out⟩⟩
                  ·rw [if_neg c52] at H
                   have c52b0 : (t158 == x7_4) = false := beq_eq_false_iff_ne.mpr c52
                   have c52b1 : (t158 != x7_4) = true := bne_iff_ne.mpr c52
                   have H' := Aside0.mk H
                   clear H
                   go_wp2_with (first | ((with_reducible refine gate_callee (f := 9) rfl ?_); refine goesL_ (some 98) rfl rfl Try.func9 (by kernel_rfl) rfl #[.int .i64 t159] rfl Sq.m ?_; (with_reducible refine (gimballaw30_num.calls t159 t162 _ A50.out).mono ?_); rintro e w' ⟨rfl, ⟨nd, rfl⟩⟩; refine ⟨_, rfl, ?_⟩))
                   refine Cu.meet (by assumption) ?_ (by kernel_rfl) (by kernel_rfl)
                   try dsimp only [Cu.pick, Cu.nth]
                   exact ⟨_, (true), Sq.e, H', ⟨by have := HK1.out; have := HJ1.out; have := HK3.out; have := HK4.out; first | omega | exact Nat.le_refl _⟩, ⟨by (try simp only [hl5_4]); (with_reducible repeat (first | apply Kd.R_alloc | apply Kd.R_drewN | apply Kd.R_drew)); exact HO_5.out⟩, ⟨by (try simp only [hl5_4]); (with_reducible repeat (first | apply Kd.S_alloc | apply Kd.S_drewN | apply Kd.S_drew)); exact Kd.S_mono HO_8.out (fun _ hk => trivial)⟩, ⟨by (try simp only [hl5_4]); (with_reducible repeat (first | refine blk_drewN ?_ _ | refine blk_drew ?_ | refine blk_alloc ?_ _)); exact BK136.out⟩, ⟨Sq.w HB.out⟩⟩
                 ·rw [if_neg c51] at H
                  have c51b0 : (t162 == 0) = false := beq_eq_false_iff_ne.mpr c51
                  have c51b1 : (t162 != 0) = true := bne_iff_ne.mpr c51
                  (first | rw [c51b0] | (simp only [i64_w, i32_w]; rw [c51b0]) | skip)
                  have H' := Aside0.mk H
                  clear H
                  go_wp2_with (first | ((with_reducible refine gate_callee (f := 9) rfl ?_); refine goesL_ (some 98) rfl rfl Try.func9 (by kernel_rfl) rfl #[.int .i64 t159] rfl Sq.m ?_; (with_reducible refine (gimballaw30_num.calls t159 t162 _ A50.out).mono ?_); rintro e w' ⟨rfl, ⟨nd, rfl⟩⟩; refine ⟨_, rfl, ?_⟩))
                  refine Cu.meet (by assumption) ?_ (by kernel_rfl) (by kernel_rfl)
                  try dsimp only [Cu.pick, Cu.nth]
                  exact ⟨_, (true), Sq.e, H', ⟨by have := HK1.out; have := HJ1.out; have := HK3.out; have := HK4.out; first | omega | exact Nat.le_refl _⟩, ⟨by (try simp only [hl5_4]); (with_reducible repeat (first | apply Kd.R_alloc | apply Kd.R_drewN | apply Kd.R_drew)); exact HO_5.out⟩, ⟨by (try simp only [hl5_4]); (with_reducible repeat (first | apply Kd.S_alloc | apply Kd.S_drewN | apply Kd.S_drew)); exact Kd.S_mono HO_8.out (fun _ hk => trivial)⟩, ⟨by (try simp only [hl5_4]); (with_reducible repeat (first | refine blk_drewN ?_ _ | refine blk_drew ?_ | refine blk_alloc ?_ _)); exact BK136.out⟩, ⟨Sq.w HB.out⟩⟩
                ·
                 intro wc u21 u22 u23 u24 u25 u26 u27 u28 u29 u30 u31 u32 u33 u34 u35 u36 u37 u38 u39 u40 u41 u42 u43 u44 u45 u46 u47 u48 u49 u50 u51 u52 u53 u54 u55 u56 u57 u58 u59 u60 u61 u62 u63 u64 u65 u66 u67 u68 u69 u70 u71 u72 u73 u74 u75 u76 u77 u78 u79 u80 u81 u82 u83 u84 u85 u86 u87 u88 u89 u90 u91 u92 u93 u94 u95 u96 u97 u98 u99 u100 u101 u102 u103 u104 u105 u106 u107 u108 u109 u110 u111 u112 u113 u114 u115 u116 u117 u118 u119 u120 u121 u122 u123 u124 u125 u126 u127 u128 u129 u130 u131 u132 u133 u134 u135 u136 u137 u138 u139 u140 u141 u142 u143 u144 u145 u146 u147 u148 u149 u150
                 try dsimp only [Cu.over, Cu.nth]
                 intro hcut
                 clear HC47; (try clear c25b0); (try clear z48_0 z48_1 z48_2 z48_3 z48_4 z48_5 z48_6); (try clear y48_0 y48_1 y48_2 y48_3 y48_4 y48_5 y48_6)
                 obtain ⟨kq, x110_46, rfl, HA, HJ46, HO_5, HO_8, BK136, HB⟩ := hcut
                 cases kq with
                 | zero => exact absurd HA.out (by simp [gimballaw30_LogRows.j4])
                 | succ kj46 =>
                  have H := HA.out
                  clear HA
                  simp only [gimballaw30_LogRows.j4] at H
                  by_cases c57 : x110_46 = true
                  ·subst c57
                   have H1 : (some false) = some r := by rw [if_pos rfl] at H; exact H
                   clear H
                   have H := H1
                   clear H1
                   exact absurd ((Option.some.inj H).trans hrt_.out) (by simp)
                  ·replace c57 := Bool.eq_false_iff.mpr c57
                   subst c57
                   have H1 : (if (x8_4.length : Int) = 0 then (gimballaw30_LogRows.l0 kj46 l0 (wrap64 (x3_1 + 1))) else ((gimbalref0_CopyWords.f kj46 x5_4).bind fun t164 => ((gimballaw0_Within.f ((rd_T30 l0 x3_1).f5) (wrap64 (x7_4 - x9_4))).bind fun t167 => (gimballaw30_LogRows.l3 kj46 l0 x3_1 x7_4 x8_4 t164 (wrap64 (x9_4 + t167)))))) = some r := by rw [if_neg (show ¬ (false = true) by decide)] at H; exact H
                   clear H
                   have H := H1
                   clear H1
                   by_cases c58 : (x8_4.length : Int) = 0
                   ·rw [if_pos c58] at H
                    have c58b0 : ((x8_4.length : Int) == 0) = true := beq_iff_eq.mpr c58
                    have c58b1 : ((x8_4.length : Int) != 0) = false := bne_eq_false_iff_eq.mpr c58
                    clear c58
                    have H' := Aside0.mk H
                    clear H
                    obtain ⟨Ao59, co59, eo59⟩ := Kd.S_slice HO_8.out
                    subst eo59
                    go_wp2
                    (try simp only [← hl5_4])
                    refine Cu.handed kj46 (by have := HK1.out; have := HJ1.out; have := HK3.out; have := HK4.out; have := HJ46.out; omega) (by assumption) ?_ (by kernel_rfl) (by kernel_rfl)
                    try dsimp only [Cu.pick, Cu.nth]
                    exact ⟨(wrap64 (x3_1 + 1)), Sq.e, H', ⟨by have := HK1.out; have := HJ1.out; have := HK3.out; have := HK4.out; have := HJ46.out; omega⟩, ⟨Sq.w HB.out⟩⟩
                   ·rw [if_neg c58] at H
                    have c58b0 : ((x8_4.length : Int) == 0) = false := beq_eq_false_iff_ne.mpr c58
                    have c58b1 : ((x8_4.length : Int) != 0) = true := bne_iff_ne.mpr c58
                    have c58b2 : ¬ (x8_4 = []) := fun h_ => c58 (by rw [h_]; rfl)
                    replace H := Option.bind_eq_some_iff.mp H
                    obtain ⟨t164, A600, H⟩ := H
                    replace H : ((gimballaw0_Within.f ((rd_T30 l0 x3_1).f5) (wrap64 (x7_4 - x9_4))).bind fun t167 => (gimballaw30_LogRows.l3 kj46 l0 x3_1 x7_4 x8_4 t164 (wrap64 (x9_4 + t167)))) = some r := H
                    have A60 := Aside0.mk A600
                    clear A600
                    replace H := Option.bind_eq_some_iff.mp H
                    obtain ⟨t167, A610, H⟩ := H
                    replace H : (gimballaw30_LogRows.l3 kj46 l0 x3_1 x7_4 x8_4 t164 (wrap64 (x9_4 + t167))) = some r := H
                    have A61 := Aside0.mk A610
                    clear A610
                    have H' := Aside0.mk H
                    clear H
                    obtain ⟨Ao62, co62, eo62⟩ := Kd.S_slice HO_8.out
                    subst eo62
                    go_wp2_with (first | ((with_reducible refine gate_callee (f := 21) rfl ?_); refine goesL_ (some 115) rfl rfl Try.func21 (by kernel_rfl) rfl #[.slice Ao24 x5_4.length co24] rfl Sq.m ?_; (with_reducible refine (gimbalref0_CopyWords.calls kj46 _ _ x5_4 t164 _ ?side1 ?side2 A60.out).mono ?_); (case side1 => repeat (first | exact (Kd.R_reads' HO_5.out).2.2 | (with_reducible refine Kd.C_alloc ?_ _) | (with_reducible refine Kd.C_drewN ?_ _) | (with_reducible refine Kd.C_drew ?_))); (case side2 => exact (Kd.R_reads' HO_5.out).2.1); rintro e w63 ⟨v165, rfl, ho0, hb⟩; refine ⟨_, rfl, ?_⟩; have HO166 := Aside0.mk (Kd.R_lower (Kd.R_new' ho0 (Kd.R_lt (Sq.rR HO_5.out))) (below_size (Sq.w HB.out))); replace HO_5 := Aside0.mk (Kd.R_elder' (Sq.rR HO_5.out) (Kd.R_base ho0) hb); replace HO_8 := Sq.sS HO_8 hb; replace BK136 := Sq.sb BK136 hb; replace HB := Sq.sw HB hb; (try clear hb); (try clear hb2); (try clear hk); (try clear hi); (try clear ho0); obtain ⟨z64_0, z64_1, z64_2, z64_3, z64_4, z64_5, z64_6⟩ := Sq.c7 BK136.out; obtain ⟨y64_0, y64_1, y64_2, y64_3, y64_4, y64_5, y64_6⟩ := Sq.f7 BK136.out) | ((with_reducible refine gate_callee (f := 12) rfl ?_); refine goesL_ (some 122) rfl rfl Try.func12 (by kernel_rfl) rfl #[.int .i64 ((rd_T30 l0 x3_1).f5), .int .i64 (wrap64 (x7_4 - x9_4))] rfl Sq.m ?_; (with_reducible refine (gimballaw0_Within.calls ((rd_T30 l0 x3_1).f5) (wrap64 (x7_4 - x9_4)) t167 _ A61.out).mono ?_); rintro e w' ⟨rfl, ⟨nd, rfl⟩⟩; refine ⟨_, rfl, ?_⟩))
                    refine Cu.wp_loop (Cu.f :: Cu.f :: Cu.f :: Cu.f :: Cu.f :: Cu.f :: Cu.f :: Cu.f :: Cu.f :: Cu.f :: Cu.f :: Cu.f :: Cu.f :: Cu.f :: Cu.f :: Cu.f :: Cu.f :: Cu.t :: Cu.f :: Cu.f :: Cu.f :: Cu.f :: Cu.f :: Cu.f :: Cu.f :: Cu.f :: Cu.f :: Cu.f :: Cu.f :: Cu.f :: Cu.f :: Cu.f :: Cu.f :: Cu.f :: Cu.f :: Cu.f :: Cu.f :: Cu.f :: Cu.f :: Cu.f :: Cu.f :: Cu.f :: Cu.f :: Cu.f :: Cu.f :: Cu.f :: Cu.f :: Cu.f :: Cu.f :: Cu.f :: Cu.f :: Cu.f :: Cu.f :: Cu.f :: Cu.f :: Cu.f :: Cu.f :: Cu.f :: Cu.f :: Cu.f :: Cu.f :: Cu.f :: Cu.f :: Cu.f :: Cu.f :: Cu.f :: Cu.f :: Cu.f :: Cu.f :: Cu.f :: Cu.f :: Cu.f :: Cu.f :: Cu.f :: Cu.f :: Cu.f :: Cu.f :: Cu.f :: Cu.f :: Cu.f :: Cu.f :: Cu.f :: Cu.f :: Cu.f :: Cu.f :: Cu.f :: Cu.f :: Cu.f :: Cu.f :: Cu.f :: Cu.f :: Cu.f :: Cu.f :: Cu.f :: Cu.f :: Cu.f :: Cu.f :: Cu.f :: Cu.f :: Cu.f :: Cu.f :: Cu.f :: Cu.f :: Cu.f :: Cu.f :: Cu.f :: Cu.f :: Cu.f :: Cu.f :: Cu.f :: Cu.f :: Cu.f :: Cu.f :: Cu.f :: Cu.f :: Cu.f :: Cu.f :: Cu.f :: Cu.f :: Cu.f :: Cu.f :: Cu.f :: Cu.f :: Cu.f :: Cu.t :: Cu.t :: Cu.t :: Cu.t :: Cu.t :: Cu.t :: Cu.t :: Cu.t :: Cu.f :: Cu.f :: Cu.f :: Cu.f :: Cu.f :: Cu.f :: Cu.f :: Cu.f :: Cu.f :: Cu.f :: Cu.f :: Cu.f :: Cu.f :: Cu.f :: Cu.f :: Cu.f :: Cu.f :: Cu.f :: Cu.f :: Cu.f :: []) 9 (fun kq us_ w' => ∃ (x16_6 : List Int) (x17_6 : Int), (Cu.nth us_ 0) = .int .i64 x17_6 ∧ Aside0 (gimballaw30_LogRows.l3 kq l0 x3_1 x7_4 x8_4 x16_6 x17_6 = some r) ∧ Aside0 (kq ≤ kj46) ∧ Aside0 (Kd.S (Ho.km k25 w) 25 w' w.heap.size (fun _ => True) (.slice Ao62 x8_4.length co62) x8_4) ∧ Aside0 (Kd.R (Kd.int .u32) 26 w' w.heap.size (fun _ => True) v165 x16_6) ∧ Aside0 (w'.heap[gb136]? = some (.cells #[.int .i64 ((rd_T30 l0 x3_1).f0.f0), (.slice A135_1 ((rd_T30 l0 x3_1).f0.f1).length c135_1), .int .i64 ((rd_T30 l0 x3_1).f1), .int .u32 ((rd_T30 l0 x3_1).f2), (.slice A135_4 ((rd_T30 l0 x3_1).f3).length c135_4), (.slice A135_5 ((rd_T30 l0 x3_1).f4).length c135_5), .int .i64 ((rd_T30 l0 x3_1).f5)] 30 (0, 0))) ∧ Aside0 (Below w.heap.size w w')) kj46 ?_ (by kernel_rfl) (by kernel_rfl) ?_
                    · try dsimp only [Cu.pick, Cu.nth]
                      exact ⟨(t164), (wrap64 (x9_4 + t167)), Sq.e, H', ⟨Nat.le_refl _⟩, ⟨by (try simp only [hl5_4]); (with_reducible repeat (first | apply Kd.S_alloc | apply Kd.S_drewN | apply Kd.S_drew)); exact HO_8.out⟩, ⟨by (try simp only [hl5_4]); (with_reducible repeat (first | apply Kd.R_alloc | apply Kd.R_drewN | apply Kd.R_drew)); exact Kd.R_mono HO166.out (fun _ hk => trivial)⟩, ⟨by (try simp only [hl5_4]); (with_reducible repeat (first | refine blk_drewN ?_ _ | refine blk_drew ?_ | refine blk_alloc ?_ _)); exact BK136.out⟩, ⟨Sq.w HB.out⟩⟩
                    ·
                     intro gk wr u17 u124 u125 u126 u127 u128 u129 u130 u131
                     try dsimp only [Cu.over, Cu.nth]
                     intro hrel _ _ _ _
                     clear H'; (try clear c57); (try clear c58); (try clear c58b0); (try clear c58b1); (try clear c58b2); (try clear z64_0 z64_1 z64_2 z64_3 z64_4 z64_5 z64_6); (try clear y64_0 y64_1 y64_2 y64_3 y64_4 y64_5 y64_6)
                     obtain ⟨x16_6, x17_6, rfl, HA, HK6, HO_8, HO_16, BK136, HB⟩ := hrel
                     cases gk with
                     | zero => exact absurd HA.out (by simp [gimballaw30_LogRows.l3])
                     | succ k6 =>
                      have H := HA.out
                      clear HA
                      simp only [gimballaw30_LogRows.l3] at H
                      by_cases c65 : x17_6 < x7_4
                      ·rw [if_pos c65] at H
                       have c65b0 : decide (x17_6 < x7_4) = true := decide_eq_true c65
                       clear c65
                       by_cases c66 : 0 ≤ x17_6
                       ·rw [if_pos c66] at H
                        have c66b0 : decide (0 ≤ x17_6) = true := decide_eq_true c66
                        clear c66
                        by_cases c67 : x17_6 < (x16_6.length : Int)
                        ·rw [if_pos c67] at H
                         have c67b0 : decide (x17_6 < (x16_6.length : Int)) = true := decide_eq_true c67
                         clear c67
                         obtain ⟨y168, hy168⟩ : ∃ y_ : List Int, y_ = (x16_6.set (x17_6 : Int).toNat 4294967295) := ⟨_, rfl⟩
                         replace H : (gimballaw30_LogRows.l3 k6 l0 x3_1 x7_4 x8_4 y168 (wrap64 (x17_6 + 1))) = some r := by first | (rw [hy168]; with_reducible exact H) | (have H2_ := (Option.bind_some _ _).symm.trans H; rw [hy168]; with_reducible exact H2_) | (have H2_ := (Option.bind_some _ _).symm.trans H; with_reducible exact H2_) | with_reducible exact H | (rw [hy168]; exact H) | exact H
                         have Ny168 := Aside0.mk hy168
                         clear hy168
                         have H' := Aside0.mk H
                         clear H
                         have p68 : 0 ≤ (x17_6 : Int) := of_decide_eq_true (by first | (with_reducible assumption) | assumption)
                         have q68 : (x17_6 : Int) < ((x16_6.length : Int) : Int) := of_decide_eq_true (by first | (with_reducible assumption) | assumption)
                         obtain ⟨go68, co68, eo68, gb68, gl68, cl68, HG68⟩ := Kd.R_form HO_16.out (by omega)
                         (first | cases eo68 | (injection eo68 with ea_ en_ ec_; (first | subst ea_ | (injection ea_ with ea_; subst ea_)); subst ec_; clear en_))
                         have GB68 := Aside0.mk gb68
                         have GG68 := Aside0.mk HG68
                         clear gb68 gl68 HG68
                         obtain ⟨hx68_0, hf68_0⟩ := Kd.R_celln 0 HO_16.out (x17_6 : Int) p68 q68
                         replace p68 := eq_true p68
                         replace q68 := eq_true q68
                         have HP69 := Kd.R_putg HO_16.out (x17_6 : Int) 4294967295
                         go_wp2_with (first | ((with_reducible refine gate_store (t := 26) (p := 131) rfl ?_); refine store_event (t := 26) (p := 131) (v := ?vo_w70) (w1 := (wr.setCell ⟨go68, (x17_6 : Int).toNat, none⟩ (.int .u32 4294967295))) ?hg ?ho ?hn ?hr ?_; (case ho => rfl); (case hg => rfl); (case hn => rfl); (case hr => first | (go_simp; done) | (go_simp; rfl)); intro w70 hw; have hg : wr.grownBy w70 (some go68) := (by rw [hw]; exact HP69.2); have hp_ : Kd.R (Kd.int .u32) 26 w70 w.heap.size (fun _ => True) (.slice (some ⟨go68, 0, none⟩) x16_6.length co68) y168 := (by rw [hw, Ny168.out]; exact HP69.1); clear HP69; have n0_ := Aside0.mk (Kd.S_over' (v := (.slice (some ⟨go68, 0, none⟩) x16_6.length co68)) (Sq.rS HO_8.out) (Kd.R_typed HO_16.out) (Ho.kmE (by decide)) hg); have n1_ := Aside0.mk (hp_); have n2_ := Aside0.mk (blk_grown (g := gb136) (o := .cells #[.int .i64 ((rd_T30 l0 x3_1).f0.f0), .slice A135_1 ((rd_T30 l0 x3_1).f0.f1).length c135_1, .int .i64 ((rd_T30 l0 x3_1).f1), .int .u32 ((rd_T30 l0 x3_1).f2), .slice A135_4 ((rd_T30 l0 x3_1).f3).length c135_4, .slice A135_5 ((rd_T30 l0 x3_1).f4).length c135_5, .int .i64 ((rd_T30 l0 x3_1).f5)] 30 (0, 0)) (Sq.b BK136.out) hg (Kd.R_ne HO_16.out BK136.out (by decide))); have n3_ := Aside0.mk ((by rw [hw]; exact below_set (HB.out) GB68.out : Below w.heap.size w w70)); clear HO_8; clear HO_16; clear BK136; clear HB; have HO_8 := n0_; have HO_16 := n1_; have BK136 := n2_; have HB := n3_; clear n0_ n1_ n2_ n3_; clear hg hw hp_))
                         refine Cu.handed k6 (by have := HK1.out; have := HJ1.out; have := HK3.out; have := HK4.out; have := HJ46.out; have := HK6.out; omega) (by assumption) ?_ (by kernel_rfl) (by kernel_rfl)
                         try dsimp only [Cu.pick, Cu.nth]
                         exact ⟨(y168), (wrap64 (x17_6 + 1)), Sq.e, H', ⟨by have := HK1.out; have := HJ1.out; have := HK3.out; have := HK4.out; have := HJ46.out; have := HK6.out; omega⟩, ⟨by (try simp only [hl5_4]); (with_reducible repeat (first | apply Kd.S_alloc | apply Kd.S_drewN | apply Kd.S_drew)); exact HO_8.out⟩, ⟨by (try simp only [hl5_4]); (with_reducible repeat (first | apply Kd.R_alloc | apply Kd.R_drewN | apply Kd.R_drew)); exact HO_16.out⟩, ⟨by (try simp only [hl5_4]); (with_reducible repeat (first | refine blk_drewN ?_ _ | refine blk_drew ?_ | refine blk_alloc ?_ _)); exact BK136.out⟩, ⟨Sq.w HB.out⟩⟩
                        ·rw [if_neg c67] at H
                         exact absurd H (by simp)
                       ·rw [if_neg c66] at H
                        exact absurd H (by simp)
                      ·rw [if_neg c65] at H
                       have c65b0 : decide (x17_6 < x7_4) = false := decide_eq_false c65
                       clear c65
                       replace H := Option.bind_eq_some_iff.mp H
                       obtain ⟨⟨t169, t170, t171⟩, A710, H⟩ := H
                       replace H : ((gimballaw30_num.f t171).bind fun t174 => (if t174 = 0 then (if 0 ≤ (wrap64 ((x8_4.length : Int) - 1)) then (if (wrap64 ((x8_4.length : Int) - 1)) ≤ (x8_4.length : Int) then ((gimbalref0_EqEntries.f k6 t169 (x8_4.take ((wrap64 ((x8_4.length : Int) - 1)) : Int).toNat)).bind fun t179 => (if t179 = true then (gimballaw30_LogRows.l0 k6 l0 (wrap64 (x3_1 + 1))) else (some false))) else (none)) else (none)) else (some false))) = some r := H
                       have A71 := Aside0.mk A710
                       clear A710
                       replace H := Option.bind_eq_some_iff.mp H
                       obtain ⟨t174, A720, H⟩ := H
                       replace H : (if t174 = 0 then (if 0 ≤ (wrap64 ((x8_4.length : Int) - 1)) then (if (wrap64 ((x8_4.length : Int) - 1)) ≤ (x8_4.length : Int) then ((gimbalref0_EqEntries.f k6 t169 (x8_4.take ((wrap64 ((x8_4.length : Int) - 1)) : Int).toNat)).bind fun t179 => (if t179 = true then (gimballaw30_LogRows.l0 k6 l0 (wrap64 (x3_1 + 1))) else (some false))) else (none)) else (none)) else (some false)) = some r := H
                       have A72 := Aside0.mk A720
                       clear A720
                       by_cases c73 : t174 = 0
                       ·rw [if_pos c73] at H
                        have c73b0 : (t174 == 0) = true := beq_iff_eq.mpr c73
                        have c73b1 : (t174 != 0) = false := bne_eq_false_iff_eq.mpr c73
                        clear c73
                        obtain ⟨ji74, hji74⟩ : ∃ j_ : Int, (wrap64 ((x8_4.length : Int) - 1)) = j_ := ⟨_, rfl⟩
                        replace H : (if 0 ≤ (ji74) then (if (ji74) ≤ (x8_4.length : Int) then ((gimbalref0_EqEntries.f k6 t169 (x8_4.take ((ji74) : Int).toNat)).bind fun t179 => (if t179 = true then (gimballaw30_LogRows.l0 k6 l0 (wrap64 (x3_1 + 1))) else (some false))) else (none)) else (none)) = some r := by first | (rw [hji74] at H; exact H) | (simp only [hji74] at H ⊢; exact H)
                        (try rw [hji74] at A71)
                        (try rw [hji74] at A72)
                        have hji74w : (IntKind.i64.wrap ((x8_4.length : Int) - 1)) = ji74 := (i64_w _).trans hji74
                        by_cases c75 : 0 ≤ (ji74)
                        ·rw [if_pos c75] at H
                         have c75b0 := eq_true c75
                         have c75b1 : decide (0 ≤ (ji74)) = true := decide_eq_true c75
                         clear c75
                         by_cases c76 : (ji74) ≤ (x8_4.length : Int)
                         ·rw [if_pos c76] at H
                          have c76b0 := eq_true c76
                          have c76b1 : decide ((ji74) ≤ (x8_4.length : Int)) = true := decide_eq_true c76
                          clear c76
                          obtain ⟨y175, hy175⟩ : ∃ y_ : List (S25), y_ = (x8_4.take ((ji74) : Int).toNat) := ⟨_, rfl⟩
                          replace H : ((gimbalref0_EqEntries.f k6 t169 y175).bind fun t179 => (if t179 = true then (gimballaw30_LogRows.l0 k6 l0 (wrap64 (x3_1 + 1))) else (some false))) = some r := by first | (rw [hy175]; with_reducible exact H) | (have H2_ := (Option.bind_some _ _).symm.trans H; rw [hy175]; with_reducible exact H2_) | (have H2_ := (Option.bind_some _ _).symm.trans H; with_reducible exact H2_) | with_reducible exact H | (rw [hy175]; exact H) | exact H
                          have Ny175 := Aside0.mk hy175
                          clear hy175
                          replace H := Option.bind_eq_some_iff.mp H
                          obtain ⟨t179, A770, H⟩ := H
                          replace H : (if t179 = true then (gimballaw30_LogRows.l0 k6 l0 (wrap64 (x3_1 + 1))) else (some false)) = some r := H
                          have A77 := Aside0.mk A770
                          clear A770
                          by_cases c78 : t179 = true
                          ·subst c78
                           have H1 : (gimballaw30_LogRows.l0 k6 l0 (wrap64 (x3_1 + 1))) = some r := by rw [if_pos rfl] at H; exact H
                           clear H
                           have H := H1
                           clear H1
                           have H' := Aside0.mk H
                           clear H
                           obtain ⟨Ao79, co79, eo79⟩ := Kd.R_slice HO_16.out
                           subst eo79
                           go_wp2_with (first | ((with_reducible refine gate_callee (f := 10) rfl ?_); refine goesL_ (some 134) rfl rfl Try.func10 (by kernel_rfl) rfl #[.slice Ao79 x16_6.length co79] rfl Sq.m ?_; (with_reducible refine (log_Scan.calls _ _ x16_6 t169 t170 t171 _ ?side1 ?side2 A71.out).mono ?_); (case side1 => repeat (first | exact (Kd.R_reads' HO_16.out).2.2 | (with_reducible refine Kd.C_alloc ?_ _) | (with_reducible refine Kd.C_drewN ?_ _) | (with_reducible refine Kd.C_drew ?_))); (case side2 => exact (Kd.R_reads' HO_16.out).2.1); rintro e w80 ⟨v172, rfl, ho0, hb⟩; refine ⟨_, rfl, ?_⟩; have HO173 := Aside0.mk (Kd.S_lower (Kd.S_new' ho0 (Kd.S_lt (Sq.rS HO_8.out))) (below_size (Sq.w HB.out))); replace HO_8 := Aside0.mk (Kd.S_elder' (Sq.rS HO_8.out) (Kd.S_base ho0) hb); replace HO_16 := Sq.sR HO_16 hb; replace BK136 := Sq.sb BK136 hb; replace HB := Sq.sw HB hb; (try clear hb); (try clear hb2); (try clear hk); (try clear hi); (try clear ho0)) | ((with_reducible refine gate_callee (f := 9) rfl ?_); refine goesL_ (some 139) rfl rfl Try.func9 (by kernel_rfl) rfl #[.int .i64 t171] rfl Sq.m ?_; (with_reducible refine (gimballaw30_num.calls t171 t174 _ A72.out).mono ?_); rintro e w' ⟨rfl, ⟨nd, rfl⟩⟩; refine ⟨_, rfl, ?_⟩; have q81 : ((ji74) : Int) ≤ ((x8_4.length : Int) : Int) := of_decide_eq_true (by first | (with_reducible assumption) | assumption); obtain ⟨i081, hi081, _, hsz81, _⟩ := info_parts info25; have hroom81 : x8_4.length ≤ co62 := (Kd.S_reads' HO_8.out).2.1; have hC81 : Kd.C k25 _ Ao62 x8_4.length x8_4 := (Ho.km_read HB.out (Kd.S_reads' HO_8.out).2.2); have hcut81 := cut_to (P := Try.prog) 28 25 .i64 Try.underlying28 hi081 Ao62 x8_4.length co62 (ji74) (of_decide_eq_true (by first | (with_reducible assumption) | assumption)) q81 hroom81; have hr81 := Kd.C_take (m := ((ji74) : Int).toNat) hC81 (by omega); have hy81 : y175.length = ((ji74) : Int).toNat := (by rw [Ny175.out, List.length_take]; omega); rw [← Ny175.out] at hr81; rw [← hy81] at hcut81; have HR178 := Aside0.mk hr81; have HC178 := Aside0.mk (show y175.length ≤ co62 from by omega); clear hr81 hC81 hroom81 hi081 hsz81; have KY81 := Aside0.mk hy81; clear hy81; have KL81 := Aside0.mk (show ((ji74) : Int).toNat ≤ x8_4.length from by omega); replace q81 := eq_true q81; obtain ⟨Ao82, co82, eo82⟩ := Kd.S_slice HO173.out; subst eo82) | (go_at_call 22; (with_reducible refine (gimbalref0_EqEntries.calls k6 _ _ t169 _ _ y175 true _ ?side1 ?side2 ?side3 ?side4 A77.out).mono ?_); (case side1 => repeat (first | exact (Kd.S_reads' HO173.out).2.2 | (with_reducible refine Kd.C_alloc ?_ _) | (with_reducible refine Kd.C_drewN ?_ _) | (with_reducible refine Kd.C_drew ?_))); (case side2 => exact (Kd.S_reads' HO173.out).2.1); (case side3 => repeat (first | exact (by repeat (first | (with_reducible exact HR178.out) | (with_reducible refine Kd.C_alloc ?_ _) | (with_reducible refine Kd.C_drewN ?_ _) | (with_reducible refine Kd.C_drew ?_) | exact HR178.out)) | (with_reducible refine Kd.C_alloc ?_ _) | (with_reducible refine Kd.C_drewN ?_ _) | (with_reducible refine Kd.C_drew ?_))); (case side4 => exact HC178.out); rintro e w83 ⟨rfl, hb⟩; replace HO_8 := Sq.sS HO_8 hb; replace HO_16 := Sq.sR HO_16 hb; replace HO173 := Sq.sS HO173 hb; replace BK136 := Sq.sb BK136 hb; replace HR178 := Aside0.mk (Kd.C_below (by repeat (first | (with_reducible exact HR178.out) | (with_reducible refine Kd.C_alloc ?_ _) | (with_reducible refine Kd.C_drewN ?_ _) | (with_reducible refine Kd.C_drew ?_) | exact HR178.out)) hb); replace HB := Sq.sw HB hb; (try clear hb); (try clear hb2); (try clear hk); (try clear hi)))
                           (try simp only [← hl5_4])
                           refine Cu.handed k6 (by have := HK1.out; have := HJ1.out; have := HK3.out; have := HK4.out; have := HJ46.out; have := HK6.out; omega) (by assumption) ?_ (by kernel_rfl) (by kernel_rfl)
                           try dsimp only [Cu.pick, Cu.nth]
                           exact ⟨(wrap64 (x3_1 + 1)), Sq.e, H', ⟨by have := HK1.out; have := HJ1.out; have := HK3.out; have := HK4.out; have := HJ46.out; have := HK6.out; omega⟩, ⟨Sq.w HB.out⟩⟩
                          ·replace c78 := Bool.eq_false_iff.mpr c78
                           subst c78
                           have H1 : (some false) = some r := by rw [if_neg (show ¬ (false = true) by decide)] at H; exact H
                           clear H
                           have H := H1
                           clear H1
                           exact absurd ((Option.some.inj H).trans hrt_.out) (by simp)
                         ·rw [if_neg c76] at H
                          exact absurd H (by simp)
                        ·rw [if_neg c75] at H
                         exact absurd H (by simp)
                       ·rw [if_neg c73] at H
                        have c73b0 : (t174 == 0) = false := beq_eq_false_iff_ne.mpr c73
                        have c73b1 : (t174 != 0) = true := bne_iff_ne.mpr c73
                        exact absurd ((Option.some.inj H).trans hrt_.out) (by simp)
         ·rw [if_neg c12] at H
          exact absurd H (by simp)
       ·rw [if_neg c6] at H
        exact absurd H (by simp)
      ·rw [if_neg c5] at H
       exact absurd H (by simp)
     ·replace c4 := Bool.eq_false_iff.mpr c4
      subst c4
      have H1 : ((gimballaw30_wakes.f).bind fun t134 => (some t134)) = some r := by rw [if_neg (show ¬ (false = true) by decide)] at H; exact H
      clear H
      have H := H1
      clear H1
      replace H := Option.bind_eq_some_iff.mp H
      obtain ⟨t134, A840, H⟩ := H
      replace H : (some t134) = some r := H
      have A84 := Aside0.mk A840
      clear A840
      obtain rfl := Option.some.inj H
      go_wp2_with (first | ((with_reducible refine gate_callee (f := 15) rfl ?_); refine goesL_ (some 151) rfl rfl Try.func15 (by kernel_rfl) rfl #[] rfl Sq.m ?_; (with_reducible refine (gimballaw30_wakes.calls  t134 _ A84.out).mono ?_); rintro e w' ⟨rfl, ⟨nd, rfl⟩⟩; refine ⟨_, rfl, ?_⟩))
      go_ret
      exact ⟨by first | rfl | (simp [errW_none, errW_some] <;> rfl) | (simp [*, errW_none, errW_some] <;> rfl), Sq.w HB.out⟩

end Go.Proofs.Ytbleapgklbohcaa.PLogRows
