import Derived.Test.YtbleapgklbohcaaCut
import Derived.Test.YtbleapgklbohcaaPLogExactx0
import Derived.Test.YtbleapgklbohcaaPLogExactx1
import Derived.Test.YtbleapgklbohcaaPLogExactx2
import Derived.Test.YtbleapgklbohcaaPLogExactx3
import Derived.Test.YtbleapgklbohcaaPLogExactx4
import Derived.Test.YtbleapgklbohcaaPLogExactx5
namespace Go.Proofs.Ytbleapgklbohcaa.PLogExact
open Go.RowKit Go.Proofs.YtbleapgklbohcaaW.PrintWords Go.Proofs.YtbleapgklbohcaaW.PrintLast Go.Proofs.YtbleapgklbohcaaW.PrintMore
attribute [local go_sem] max2_int min2_int max_two min_two max_three min_three max_four min_four   -- for this text's walks alone
set_option linter.unusedVariables false
set_option linter.unusedSimpArgs false

/-! ### gimballaw30_LogExact: function 4 -/
mutual
def gimballaw30_LogExact.l0 : Nat → List (S30) → Int → Option (Bool)
 | 0, _, _ => none
 | k + 1, x0, x3 => if x3 < (x0.length : Int) then (gimballaw30_LogExact.j1 k x0 x3 (decide (x3 < 10))) else (gimballaw30_LogExact.j1 k x0 x3 false)
def gimballaw30_LogExact.j1 : Nat → List (S30) → Int → Bool → Option (Bool)
 | 0, _, _, _ => none
 | k + 1, x0, x3, x29 => if x29 = true then (if 0 ≤ x3 then (if x3 < (x0.length : Int) then ((gimballaw30_heavy.f ((rd_T30 x0 x3).f0.f0) ((rd_T30 x0 x3).f0.f1) ((rd_T30 x0 x3).f1) ((rd_T30 x0 x3).f2) ((rd_T30 x0 x3).f3) ((rd_T30 x0 x3).f4) ((rd_T30 x0 x3).f5)).bind fun t195 => (if t195 = true then (some true) else ((gimbalref29_MayEntry.f ((rd_T30 x0 x3).f0.f0) ((rd_T30 x0 x3).f0.f1)).bind fun t196 => (if t196 = true then ((gimbalref29_Pack.f k ((rd_T30 x0 x3).f0.f0) ((rd_T30 x0 x3).f0.f1)).bind fun t197 => (gimballaw30_LogExact.j2 k x0 x3 0 t197 ((rd_T30 x0 x3).f0.f0) ((rd_T30 x0 x3).f0.f1) ((rd_T30 x0 x3).f1) ((rd_T30 x0 x3).f2) ((rd_T30 x0 x3).f3) ((rd_T30 x0 x3).f4) ((rd_T30 x0 x3).f5))) else (gimballaw30_LogExact.j2 k x0 x3 1 ([] : List Int) ((rd_T30 x0 x3).f0.f0) ((rd_T30 x0 x3).f0.f1) ((rd_T30 x0 x3).f1) ((rd_T30 x0 x3).f2) ((rd_T30 x0 x3).f3) ((rd_T30 x0 x3).f4) ((rd_T30 x0 x3).f5)))))) else (none)) else (none)) else ((gimballaw30_wakes.f).bind fun t192 => (some t192))
def gimballaw30_LogExact.j2 : Nat → List (S30) → Int → Int → List Int → Int → List Int → Int → Int → List Int → List (S25) → Int → Option (Bool)
 | 0, _, _, _, _, _, _, _, _, _, _, _ => none
 | k + 1, x0, x3, x5, x6, x195000, x195001, x195002, x195003, x195004, x195005, x195006 => (gimbalref0_CopyEntry.f k x195000 x195001).bind fun bt200 => ((log_Pack.f k bt200.1 bt200.2).bind fun bt205 => ((gimballaw30_num.f bt205.2).bind fun t209 => (if t209 = x5 then ((gimbalref0_EqWords.f k bt205.1 x6).bind fun t210 => (if t210 = true then ((gimbalref0_EqEntry.f k bt200.1 bt200.2 x195000 x195001).bind fun t211 => (gimballaw30_LogExact.j3 k x0 x3 (!t211) x195000 x195001 x195002 x195003 x195004 x195005 x195006)) else (gimballaw30_LogExact.j3 k x0 x3 true x195000 x195001 x195002 x195003 x195004 x195005 x195006))) else (gimballaw30_LogExact.j3 k x0 x3 true x195000 x195001 x195002 x195003 x195004 x195005 x195006))))
def gimballaw30_LogExact.j3 : Nat → List (S30) → Int → Bool → Int → List Int → Int → Int → List Int → List (S25) → Int → Option (Bool)
 | 0, _, _, _, _, _, _, _, _, _, _ => none
 | k + 1, x0, x3, x68, x195000, x195001, x195002, x195003, x195004, x195005, x195006 => if x68 = true then (some false) else ((log_Head.f x195002).bind fun bt212 => (if x195002 ≥ 0 then (gimballaw30_LogExact.j4 k x0 x3 bt212.1 bt212.2 (decide (x195002 < 16777216)) x195000 x195001 x195002 x195003 x195004 x195005 x195006) else (gimballaw30_LogExact.j4 k x0 x3 bt212.1 bt212.2 false x195000 x195001 x195002 x195003 x195004 x195005 x195006)))
def gimballaw30_LogExact.j4 : Nat → List (S30) → Int → Int → Int → Bool → Int → List Int → Int → Int → List Int → List (S25) → Int → Option (Bool)
 | 0, _, _, _, _, _, _, _, _, _, _, _, _ => none
 | k + 1, x0, x3, x10, x11, x82, x195000, x195001, x195002, x195003, x195004, x195005, x195006 => if x82 = true then ((gimballaw30_num.f x11).bind fun t214 => (if t214 = 0 then (if x10 = ((1191182336 + ((x195002) % 4294967296)) % 4294967296) then (gimballaw30_LogExact.j5 k x0 x3 x195000 x195001 x195002 x195003 x195004 x195005 x195006) else (some false)) else (some false))) else ((gimballaw30_num.f x11).bind fun t215 => (if t215 = 1 then (if x10 = 0 then (gimballaw30_LogExact.j5 k x0 x3 x195000 x195001 x195002 x195003 x195004 x195005 x195006) else (some false)) else (some false)))
def gimballaw30_LogExact.j5 : Nat → List (S30) → Int → Int → List Int → Int → Int → List Int → List (S25) → Int → Option (Bool)
 | 0, _, _, _, _, _, _, _, _, _ => none
 | k + 1, x0, x3, x195000, x195001, x195002, x195003, x195004, x195005, x195006 => (log_Gen.f x195003).bind fun bt216 => ((gimbalref29_Gen.f x195003).bind fun bt218 => (if bt216.1 = bt218.1 then (gimballaw30_LogExact.j6 k x0 x3 (bt216.2 != bt218.2) x195000 x195001 x195002 x195003 x195004 x195005 x195006) else (gimballaw30_LogExact.j6 k x0 x3 true x195000 x195001 x195002 x195003 x195004 x195005 x195006)))
def gimballaw30_LogExact.j6 : Nat → List (S30) → Int → Bool → Int → List Int → Int → Int → List Int → List (S25) → Int → Option (Bool)
 | 0, _, _, _, _, _, _, _, _, _, _ => none
 | k + 1, x0, x3, x120, x195000, x195001, x195002, x195003, x195004, x195005, x195006 => if x120 = true then (some false) else (if (x195004.length : Int) = 256 then ((gimbalref29_Scan.f k x195004).bind fun bt220 => (gimballaw30_LogExact.j7 k x0 x3 0 bt220.1 bt220.2 x195000 x195001 x195002 x195003 x195004 x195005 x195006)) else (gimballaw30_LogExact.j7 k x0 x3 1 ([] : List (S25)) 0 x195000 x195001 x195002 x195003 x195004 x195005 x195006))
def gimballaw30_LogExact.j7 : Nat → List (S30) → Int → Int → List (S25) → Int → Int → List Int → Int → Int → List Int → List (S25) → Int → Option (Bool)
 | 0, _, _, _, _, _, _, _, _, _, _, _, _ => none
 | k + 1, x0, x3, x5, x16, x17, x195000, x195001, x195002, x195003, x195004, x195005, x195006 => (gimbalref0_CopyWords.f k x195004).bind fun t224 => ((log_Scan.f t224).bind fun bt227 => ((gimballaw30_num.f bt227.2.2).bind fun t232 => (if t232 = x5 then (if bt227.2.1 = x17 then ((gimbalref0_EqEntries.f k bt227.1 x16).bind fun t233 => (if t233 = true then ((gimbalref0_EqWords.f k t224 x195004).bind fun t234 => (if t234 = true then ((gimballaw0_Entries.f bt227.1).bind fun _ => (gimballaw30_LogExact.l0 k x0 (wrap64 (x3 + 1)))) else (some false))) else (some false))) else (some false)) else (some false))))
end
def gimballaw30_LogExact.f (k : Nat) (l0 : List (S30)) : Option (Bool) := gimballaw30_LogExact.l0 k l0 0
theorem gimballaw30_LogExact.mono_l : ∀ k, (∀ y0 y1, LeO (gimballaw30_LogExact.l0 k y0 y1) (gimballaw30_LogExact.l0 (k + 1) y0 y1)) ∧ (∀ y0 y1 y2, LeO (gimballaw30_LogExact.j1 k y0 y1 y2) (gimballaw30_LogExact.j1 (k + 1) y0 y1 y2)) ∧ (∀ y0 y1 y2 y3 y4 y5 y6 y7 y8 y9 y10, LeO (gimballaw30_LogExact.j2 k y0 y1 y2 y3 y4 y5 y6 y7 y8 y9 y10) (gimballaw30_LogExact.j2 (k + 1) y0 y1 y2 y3 y4 y5 y6 y7 y8 y9 y10)) ∧ (∀ y0 y1 y2 y3 y4 y5 y6 y7 y8 y9, LeO (gimballaw30_LogExact.j3 k y0 y1 y2 y3 y4 y5 y6 y7 y8 y9) (gimballaw30_LogExact.j3 (k + 1) y0 y1 y2 y3 y4 y5 y6 y7 y8 y9)) ∧ (∀ y0 y1 y2 y3 y4 y5 y6 y7 y8 y9 y10 y11, LeO (gimballaw30_LogExact.j4 k y0 y1 y2 y3 y4 y5 y6 y7 y8 y9 y10 y11) (gimballaw30_LogExact.j4 (k + 1) y0 y1 y2 y3 y4 y5 y6 y7 y8 y9 y10 y11)) ∧ (∀ y0 y1 y2 y3 y4 y5 y6 y7 y8, LeO (gimballaw30_LogExact.j5 k y0 y1 y2 y3 y4 y5 y6 y7 y8) (gimballaw30_LogExact.j5 (k + 1) y0 y1 y2 y3 y4 y5 y6 y7 y8)) ∧ (∀ y0 y1 y2 y3 y4 y5 y6 y7 y8 y9, LeO (gimballaw30_LogExact.j6 k y0 y1 y2 y3 y4 y5 y6 y7 y8 y9) (gimballaw30_LogExact.j6 (k + 1) y0 y1 y2 y3 y4 y5 y6 y7 y8 y9)) ∧ (∀ y0 y1 y2 y3 y4 y5 y6 y7 y8 y9 y10 y11, LeO (gimballaw30_LogExact.j7 k y0 y1 y2 y3 y4 y5 y6 y7 y8 y9 y10 y11) (gimballaw30_LogExact.j7 (k + 1) y0 y1 y2 y3 y4 y5 y6 y7 y8 y9 y10 y11))
 | 0 => ⟨fun _ _ r h => by simp [gimballaw30_LogExact.l0] at h, fun _ _ _ r h => by simp [gimballaw30_LogExact.j1] at h, fun _ _ _ _ _ _ _ _ _ _ _ r h => by simp [gimballaw30_LogExact.j2] at h, fun _ _ _ _ _ _ _ _ _ _ r h => by simp [gimballaw30_LogExact.j3] at h, fun _ _ _ _ _ _ _ _ _ _ _ _ r h => by simp [gimballaw30_LogExact.j4] at h, fun _ _ _ _ _ _ _ _ _ r h => by simp [gimballaw30_LogExact.j5] at h, fun _ _ _ _ _ _ _ _ _ _ r h => by simp [gimballaw30_LogExact.j6] at h, fun _ _ _ _ _ _ _ _ _ _ _ _ r h => by simp [gimballaw30_LogExact.j7] at h⟩
 | k + 1 => by
  obtain ⟨ih0, ih1, ih2, ih3, ih4, ih5, ih6, ih7⟩ := gimballaw30_LogExact.mono_l k
  refine ⟨?_, ?_, ?_, ?_, ?_, ?_, ?_, ?_⟩
  ·intro y0 y1
   unfold gimballaw30_LogExact.l0
   repeat' first
   | (with_reducible exact ih0 _ _)
   | (with_reducible exact ih1 _ _ _)
   | (with_reducible exact ih2 _ _ _ _ _ _ _ _ _ _ _)
   | (with_reducible exact ih3 _ _ _ _ _ _ _ _ _ _)
   | (with_reducible exact ih4 _ _ _ _ _ _ _ _ _ _ _ _)
   | (with_reducible exact ih5 _ _ _ _ _ _ _ _ _)
   | (with_reducible exact ih6 _ _ _ _ _ _ _ _ _ _)
   | (with_reducible exact ih7 _ _ _ _ _ _ _ _ _ _ _ _)
   | (with_reducible exact gimbalref0_CopyEntry.mono _ _ _)
   | (with_reducible exact gimbalref0_CopyWords.mono _ _)
   | (with_reducible exact gimbalref0_EqEntries.mono _ _ _)
   | (with_reducible exact gimbalref0_EqEntry.mono _ _ _ _ _)
   | (with_reducible exact gimbalref0_EqWords.mono _ _ _)
   | (with_reducible exact gimbalref29_Pack.mono _ _ _)
   | (with_reducible exact gimbalref29_Scan.mono _ _)
   | (with_reducible exact log_Pack.mono _ _ _)
   | (with_reducible exact LeO.refl _)
   | (with_reducible exact LeO.none _)
   | (with_reducible refine LeO.ite ?_ ?_)
   | (with_reducible refine LeO.bind ?_ (fun _ => ?_))
   | exact ih0 _ _
   | exact ih1 _ _ _
   | exact ih2 _ _ _ _ _ _ _ _ _ _ _
   | exact ih3 _ _ _ _ _ _ _ _ _ _
   | exact ih4 _ _ _ _ _ _ _ _ _ _ _ _
   | exact ih5 _ _ _ _ _ _ _ _ _
   | exact ih6 _ _ _ _ _ _ _ _ _ _
   | exact ih7 _ _ _ _ _ _ _ _ _ _ _ _
   | exact gimbalref0_CopyEntry.mono _ _ _
   | exact gimbalref0_CopyWords.mono _ _
   | exact gimbalref0_EqEntries.mono _ _ _
   | exact gimbalref0_EqEntry.mono _ _ _ _ _
   | exact gimbalref0_EqWords.mono _ _ _
   | exact gimbalref29_Pack.mono _ _ _
   | exact gimbalref29_Scan.mono _ _
   | exact log_Pack.mono _ _ _
   | exact LeO.none _
   | refine LeO.ite ?_ ?_
   | refine LeO.bind ?_ (fun _ => ?_)
  ·intro y0 y1 y2
   unfold gimballaw30_LogExact.j1
   repeat' first
   | (with_reducible exact ih0 _ _)
   | (with_reducible exact ih1 _ _ _)
   | (with_reducible exact ih2 _ _ _ _ _ _ _ _ _ _ _)
   | (with_reducible exact ih3 _ _ _ _ _ _ _ _ _ _)
   | (with_reducible exact ih4 _ _ _ _ _ _ _ _ _ _ _ _)
   | (with_reducible exact ih5 _ _ _ _ _ _ _ _ _)
   | (with_reducible exact ih6 _ _ _ _ _ _ _ _ _ _)
   | (with_reducible exact ih7 _ _ _ _ _ _ _ _ _ _ _ _)
   | (with_reducible exact gimbalref0_CopyEntry.mono _ _ _)
   | (with_reducible exact gimbalref0_CopyWords.mono _ _)
   | (with_reducible exact gimbalref0_EqEntries.mono _ _ _)
   | (with_reducible exact gimbalref0_EqEntry.mono _ _ _ _ _)
   | (with_reducible exact gimbalref0_EqWords.mono _ _ _)
   | (with_reducible exact gimbalref29_Pack.mono _ _ _)
   | (with_reducible exact gimbalref29_Scan.mono _ _)
   | (with_reducible exact log_Pack.mono _ _ _)
   | (with_reducible exact LeO.refl _)
   | (with_reducible exact LeO.none _)
   | (with_reducible refine LeO.ite ?_ ?_)
   | (with_reducible refine LeO.bind ?_ (fun _ => ?_))
   | exact ih0 _ _
   | exact ih1 _ _ _
   | exact ih2 _ _ _ _ _ _ _ _ _ _ _
   | exact ih3 _ _ _ _ _ _ _ _ _ _
   | exact ih4 _ _ _ _ _ _ _ _ _ _ _ _
   | exact ih5 _ _ _ _ _ _ _ _ _
   | exact ih6 _ _ _ _ _ _ _ _ _ _
   | exact ih7 _ _ _ _ _ _ _ _ _ _ _ _
   | exact gimbalref0_CopyEntry.mono _ _ _
   | exact gimbalref0_CopyWords.mono _ _
   | exact gimbalref0_EqEntries.mono _ _ _
   | exact gimbalref0_EqEntry.mono _ _ _ _ _
   | exact gimbalref0_EqWords.mono _ _ _
   | exact gimbalref29_Pack.mono _ _ _
   | exact gimbalref29_Scan.mono _ _
   | exact log_Pack.mono _ _ _
   | exact LeO.none _
   | refine LeO.ite ?_ ?_
   | refine LeO.bind ?_ (fun _ => ?_)
  ·intro y0 y1 y2 y3 y4 y5 y6 y7 y8 y9 y10
   unfold gimballaw30_LogExact.j2
   repeat' first
   | (with_reducible exact ih0 _ _)
   | (with_reducible exact ih1 _ _ _)
   | (with_reducible exact ih2 _ _ _ _ _ _ _ _ _ _ _)
   | (with_reducible exact ih3 _ _ _ _ _ _ _ _ _ _)
   | (with_reducible exact ih4 _ _ _ _ _ _ _ _ _ _ _ _)
   | (with_reducible exact ih5 _ _ _ _ _ _ _ _ _)
   | (with_reducible exact ih6 _ _ _ _ _ _ _ _ _ _)
   | (with_reducible exact ih7 _ _ _ _ _ _ _ _ _ _ _ _)
   | (with_reducible exact gimbalref0_CopyEntry.mono _ _ _)
   | (with_reducible exact gimbalref0_CopyWords.mono _ _)
   | (with_reducible exact gimbalref0_EqEntries.mono _ _ _)
   | (with_reducible exact gimbalref0_EqEntry.mono _ _ _ _ _)
   | (with_reducible exact gimbalref0_EqWords.mono _ _ _)
   | (with_reducible exact gimbalref29_Pack.mono _ _ _)
   | (with_reducible exact gimbalref29_Scan.mono _ _)
   | (with_reducible exact log_Pack.mono _ _ _)
   | (with_reducible exact LeO.refl _)
   | (with_reducible exact LeO.none _)
   | (with_reducible refine LeO.ite ?_ ?_)
   | (with_reducible refine LeO.bind ?_ (fun _ => ?_))
   | exact ih0 _ _
   | exact ih1 _ _ _
   | exact ih2 _ _ _ _ _ _ _ _ _ _ _
   | exact ih3 _ _ _ _ _ _ _ _ _ _
   | exact ih4 _ _ _ _ _ _ _ _ _ _ _ _
   | exact ih5 _ _ _ _ _ _ _ _ _
   | exact ih6 _ _ _ _ _ _ _ _ _ _
   | exact ih7 _ _ _ _ _ _ _ _ _ _ _ _
   | exact gimbalref0_CopyEntry.mono _ _ _
   | exact gimbalref0_CopyWords.mono _ _
   | exact gimbalref0_EqEntries.mono _ _ _
   | exact gimbalref0_EqEntry.mono _ _ _ _ _
   | exact gimbalref0_EqWords.mono _ _ _
   | exact gimbalref29_Pack.mono _ _ _
   | exact gimbalref29_Scan.mono _ _
   | exact log_Pack.mono _ _ _
   | exact LeO.none _
   | refine LeO.ite ?_ ?_
   | refine LeO.bind ?_ (fun _ => ?_)
  ·intro y0 y1 y2 y3 y4 y5 y6 y7 y8 y9
   unfold gimballaw30_LogExact.j3
   repeat' first
   | (with_reducible exact ih0 _ _)
   | (with_reducible exact ih1 _ _ _)
   | (with_reducible exact ih2 _ _ _ _ _ _ _ _ _ _ _)
   | (with_reducible exact ih3 _ _ _ _ _ _ _ _ _ _)
   | (with_reducible exact ih4 _ _ _ _ _ _ _ _ _ _ _ _)
   | (with_reducible exact ih5 _ _ _ _ _ _ _ _ _)
   | (with_reducible exact ih6 _ _ _ _ _ _ _ _ _ _)
   | (with_reducible exact ih7 _ _ _ _ _ _ _ _ _ _ _ _)
   | (with_reducible exact gimbalref0_CopyEntry.mono _ _ _)
   | (with_reducible exact gimbalref0_CopyWords.mono _ _)
   | (with_reducible exact gimbalref0_EqEntries.mono _ _ _)
   | (with_reducible exact gimbalref0_EqEntry.mono _ _ _ _ _)
   | (with_reducible exact gimbalref0_EqWords.mono _ _ _)
   | (with_reducible exact gimbalref29_Pack.mono _ _ _)
   | (with_reducible exact gimbalref29_Scan.mono _ _)
   | (with_reducible exact log_Pack.mono _ _ _)
   | (with_reducible exact LeO.refl _)
   | (with_reducible exact LeO.none _)
   | (with_reducible refine LeO.ite ?_ ?_)
   | (with_reducible refine LeO.bind ?_ (fun _ => ?_))
   | exact ih0 _ _
   | exact ih1 _ _ _
   | exact ih2 _ _ _ _ _ _ _ _ _ _ _
   | exact ih3 _ _ _ _ _ _ _ _ _ _
   | exact ih4 _ _ _ _ _ _ _ _ _ _ _ _
   | exact ih5 _ _ _ _ _ _ _ _ _
   | exact ih6 _ _ _ _ _ _ _ _ _ _
   | exact ih7 _ _ _ _ _ _ _ _ _ _ _ _
   | exact gimbalref0_CopyEntry.mono _ _ _
   | exact gimbalref0_CopyWords.mono _ _
   | exact gimbalref0_EqEntries.mono _ _ _
   | exact gimbalref0_EqEntry.mono _ _ _ _ _
   | exact gimbalref0_EqWords.mono _ _ _
   | exact gimbalref29_Pack.mono _ _ _
   | exact gimbalref29_Scan.mono _ _
   | exact log_Pack.mono _ _ _
   | exact LeO.none _
   | refine LeO.ite ?_ ?_
   | refine LeO.bind ?_ (fun _ => ?_)
  ·intro y0 y1 y2 y3 y4 y5 y6 y7 y8 y9 y10 y11
   unfold gimballaw30_LogExact.j4
   repeat' first
   | (with_reducible exact ih0 _ _)
   | (with_reducible exact ih1 _ _ _)
   | (with_reducible exact ih2 _ _ _ _ _ _ _ _ _ _ _)
   | (with_reducible exact ih3 _ _ _ _ _ _ _ _ _ _)
   | (with_reducible exact ih4 _ _ _ _ _ _ _ _ _ _ _ _)
   | (with_reducible exact ih5 _ _ _ _ _ _ _ _ _)
   | (with_reducible exact ih6 _ _ _ _ _ _ _ _ _ _)
   | (with_reducible exact ih7 _ _ _ _ _ _ _ _ _ _ _ _)
   | (with_reducible exact gimbalref0_CopyEntry.mono _ _ _)
   | (with_reducible exact gimbalref0_CopyWords.mono _ _)
   | (with_reducible exact gimbalref0_EqEntries.mono _ _ _)
   | (with_reducible exact gimbalref0_EqEntry.mono _ _ _ _ _)
   | (with_reducible exact gimbalref0_EqWords.mono _ _ _)
   | (with_reducible exact gimbalref29_Pack.mono _ _ _)
   | (with_reducible exact gimbalref29_Scan.mono _ _)
   | (with_reducible exact log_Pack.mono _ _ _)
   | (with_reducible exact LeO.refl _)
   | (with_reducible exact LeO.none _)
   | (with_reducible refine LeO.ite ?_ ?_)
   | (with_reducible refine LeO.bind ?_ (fun _ => ?_))
   | exact ih0 _ _
   | exact ih1 _ _ _
   | exact ih2 _ _ _ _ _ _ _ _ _ _ _
   | exact ih3 _ _ _ _ _ _ _ _ _ _
   | exact ih4 _ _ _ _ _ _ _ _ _ _ _ _
   | exact ih5 _ _ _ _ _ _ _ _ _
   | exact ih6 _ _ _ _ _ _ _ _ _ _
   | exact ih7 _ _ _ _ _ _ _ _ _ _ _ _
   | exact gimbalref0_CopyEntry.mono _ _ _
   | exact gimbalref0_CopyWords.mono _ _
   | exact gimbalref0_EqEntries.mono _ _ _
   | exact gimbalref0_EqEntry.mono _ _ _ _ _
   | exact gimbalref0_EqWords.mono _ _ _
   | exact gimbalref29_Pack.mono _ _ _
   | exact gimbalref29_Scan.mono _ _
   | exact log_Pack.mono _ _ _
   | exact LeO.none _
   | refine LeO.ite ?_ ?_
   | refine LeO.bind ?_ (fun _ => ?_)
  ·intro y0 y1 y2 y3 y4 y5 y6 y7 y8
   unfold gimballaw30_LogExact.j5
   repeat' first
   | (with_reducible exact ih0 _ _)
   | (with_reducible exact ih1 _ _ _)
   | (with_reducible exact ih2 _ _ _ _ _ _ _ _ _ _ _)
   | (with_reducible exact ih3 _ _ _ _ _ _ _ _ _ _)
   | (with_reducible exact ih4 _ _ _ _ _ _ _ _ _ _ _ _)
   | (with_reducible exact ih5 _ _ _ _ _ _ _ _ _)
   | (with_reducible exact ih6 _ _ _ _ _ _ _ _ _ _)
   | (with_reducible exact ih7 _ _ _ _ _ _ _ _ _ _ _ _)
   | (with_reducible exact gimbalref0_CopyEntry.mono _ _ _)
   | (with_reducible exact gimbalref0_CopyWords.mono _ _)
   | (with_reducible exact gimbalref0_EqEntries.mono _ _ _)
   | (with_reducible exact gimbalref0_EqEntry.mono _ _ _ _ _)
   | (with_reducible exact gimbalref0_EqWords.mono _ _ _)
   | (with_reducible exact gimbalref29_Pack.mono _ _ _)
   | (with_reducible exact gimbalref29_Scan.mono _ _)
   | (with_reducible exact log_Pack.mono _ _ _)
   | (with_reducible exact LeO.refl _)
   | (with_reducible exact LeO.none _)
   | (with_reducible refine LeO.ite ?_ ?_)
   | (with_reducible refine LeO.bind ?_ (fun _ => ?_))
   | exact ih0 _ _
   | exact ih1 _ _ _
   | exact ih2 _ _ _ _ _ _ _ _ _ _ _
   | exact ih3 _ _ _ _ _ _ _ _ _ _
   | exact ih4 _ _ _ _ _ _ _ _ _ _ _ _
   | exact ih5 _ _ _ _ _ _ _ _ _
   | exact ih6 _ _ _ _ _ _ _ _ _ _
   | exact ih7 _ _ _ _ _ _ _ _ _ _ _ _
   | exact gimbalref0_CopyEntry.mono _ _ _
   | exact gimbalref0_CopyWords.mono _ _
   | exact gimbalref0_EqEntries.mono _ _ _
   | exact gimbalref0_EqEntry.mono _ _ _ _ _
   | exact gimbalref0_EqWords.mono _ _ _
   | exact gimbalref29_Pack.mono _ _ _
   | exact gimbalref29_Scan.mono _ _
   | exact log_Pack.mono _ _ _
   | exact LeO.none _
   | refine LeO.ite ?_ ?_
   | refine LeO.bind ?_ (fun _ => ?_)
  ·intro y0 y1 y2 y3 y4 y5 y6 y7 y8 y9
   unfold gimballaw30_LogExact.j6
   repeat' first
   | (with_reducible exact ih0 _ _)
   | (with_reducible exact ih1 _ _ _)
   | (with_reducible exact ih2 _ _ _ _ _ _ _ _ _ _ _)
   | (with_reducible exact ih3 _ _ _ _ _ _ _ _ _ _)
   | (with_reducible exact ih4 _ _ _ _ _ _ _ _ _ _ _ _)
   | (with_reducible exact ih5 _ _ _ _ _ _ _ _ _)
   | (with_reducible exact ih6 _ _ _ _ _ _ _ _ _ _)
   | (with_reducible exact ih7 _ _ _ _ _ _ _ _ _ _ _ _)
   | (with_reducible exact gimbalref0_CopyEntry.mono _ _ _)
   | (with_reducible exact gimbalref0_CopyWords.mono _ _)
   | (with_reducible exact gimbalref0_EqEntries.mono _ _ _)
   | (with_reducible exact gimbalref0_EqEntry.mono _ _ _ _ _)
   | (with_reducible exact gimbalref0_EqWords.mono _ _ _)
   | (with_reducible exact gimbalref29_Pack.mono _ _ _)
   | (with_reducible exact gimbalref29_Scan.mono _ _)
   | (with_reducible exact log_Pack.mono _ _ _)
   | (with_reducible exact LeO.refl _)
   | (with_reducible exact LeO.none _)
   | (with_reducible refine LeO.ite ?_ ?_)
   | (with_reducible refine LeO.bind ?_ (fun _ => ?_))
   | exact ih0 _ _
   | exact ih1 _ _ _
   | exact ih2 _ _ _ _ _ _ _ _ _ _ _
   | exact ih3 _ _ _ _ _ _ _ _ _ _
   | exact ih4 _ _ _ _ _ _ _ _ _ _ _ _
   | exact ih5 _ _ _ _ _ _ _ _ _
   | exact ih6 _ _ _ _ _ _ _ _ _ _
   | exact ih7 _ _ _ _ _ _ _ _ _ _ _ _
   | exact gimbalref0_CopyEntry.mono _ _ _
   | exact gimbalref0_CopyWords.mono _ _
   | exact gimbalref0_EqEntries.mono _ _ _
   | exact gimbalref0_EqEntry.mono _ _ _ _ _
   | exact gimbalref0_EqWords.mono _ _ _
   | exact gimbalref29_Pack.mono _ _ _
   | exact gimbalref29_Scan.mono _ _
   | exact log_Pack.mono _ _ _
   | exact LeO.none _
   | refine LeO.ite ?_ ?_
   | refine LeO.bind ?_ (fun _ => ?_)
  ·intro y0 y1 y2 y3 y4 y5 y6 y7 y8 y9 y10 y11
   unfold gimballaw30_LogExact.j7
   repeat' first
   | (with_reducible exact ih0 _ _)
   | (with_reducible exact ih1 _ _ _)
   | (with_reducible exact ih2 _ _ _ _ _ _ _ _ _ _ _)
   | (with_reducible exact ih3 _ _ _ _ _ _ _ _ _ _)
   | (with_reducible exact ih4 _ _ _ _ _ _ _ _ _ _ _ _)
   | (with_reducible exact ih5 _ _ _ _ _ _ _ _ _)
   | (with_reducible exact ih6 _ _ _ _ _ _ _ _ _ _)
   | (with_reducible exact ih7 _ _ _ _ _ _ _ _ _ _ _ _)
   | (with_reducible exact gimbalref0_CopyEntry.mono _ _ _)
   | (with_reducible exact gimbalref0_CopyWords.mono _ _)
   | (with_reducible exact gimbalref0_EqEntries.mono _ _ _)
   | (with_reducible exact gimbalref0_EqEntry.mono _ _ _ _ _)
   | (with_reducible exact gimbalref0_EqWords.mono _ _ _)
   | (with_reducible exact gimbalref29_Pack.mono _ _ _)
   | (with_reducible exact gimbalref29_Scan.mono _ _)
   | (with_reducible exact log_Pack.mono _ _ _)
   | (with_reducible exact LeO.refl _)
   | (with_reducible exact LeO.none _)
   | (with_reducible refine LeO.ite ?_ ?_)
   | (with_reducible refine LeO.bind ?_ (fun _ => ?_))
   | exact ih0 _ _
   | exact ih1 _ _ _
   | exact ih2 _ _ _ _ _ _ _ _ _ _ _
   | exact ih3 _ _ _ _ _ _ _ _ _ _
   | exact ih4 _ _ _ _ _ _ _ _ _ _ _ _
   | exact ih5 _ _ _ _ _ _ _ _ _
   | exact ih6 _ _ _ _ _ _ _ _ _ _
   | exact ih7 _ _ _ _ _ _ _ _ _ _ _ _
   | exact gimbalref0_CopyEntry.mono _ _ _
   | exact gimbalref0_CopyWords.mono _ _
   | exact gimbalref0_EqEntries.mono _ _ _
   | exact gimbalref0_EqEntry.mono _ _ _ _ _
   | exact gimbalref0_EqWords.mono _ _ _
   | exact gimbalref29_Pack.mono _ _ _
   | exact gimbalref29_Scan.mono _ _
   | exact log_Pack.mono _ _ _
   | exact LeO.none _
   | refine LeO.ite ?_ ?_
   | refine LeO.bind ?_ (fun _ => ?_)
theorem gimballaw30_LogExact.mono : ∀ a0 k, LeO (gimballaw30_LogExact.f k a0) (gimballaw30_LogExact.f (k + 1) a0) := by
 intro a0 k
 obtain ⟨ih0, ih1, ih2, ih3, ih4, ih5, ih6, ih7⟩ := gimballaw30_LogExact.mono_l k
 unfold gimballaw30_LogExact.f
 repeat' first
   | (with_reducible exact ih0 _ _)
   | (with_reducible exact ih1 _ _ _)
   | (with_reducible exact ih2 _ _ _ _ _ _ _ _ _ _ _)
   | (with_reducible exact ih3 _ _ _ _ _ _ _ _ _ _)
   | (with_reducible exact ih4 _ _ _ _ _ _ _ _ _ _ _ _)
   | (with_reducible exact ih5 _ _ _ _ _ _ _ _ _)
   | (with_reducible exact ih6 _ _ _ _ _ _ _ _ _ _)
   | (with_reducible exact ih7 _ _ _ _ _ _ _ _ _ _ _ _)
   | (with_reducible exact gimbalref0_CopyEntry.mono _ _ _)
   | (with_reducible exact gimbalref0_CopyWords.mono _ _)
   | (with_reducible exact gimbalref0_EqEntries.mono _ _ _)
   | (with_reducible exact gimbalref0_EqEntry.mono _ _ _ _ _)
   | (with_reducible exact gimbalref0_EqWords.mono _ _ _)
   | (with_reducible exact gimbalref29_Pack.mono _ _ _)
   | (with_reducible exact gimbalref29_Scan.mono _ _)
   | (with_reducible exact log_Pack.mono _ _ _)
   | (with_reducible exact LeO.refl _)
   | (with_reducible exact LeO.none _)
   | (with_reducible refine LeO.ite ?_ ?_)
   | (with_reducible refine LeO.bind ?_ (fun _ => ?_))
   | exact ih0 _ _
   | exact ih1 _ _ _
   | exact ih2 _ _ _ _ _ _ _ _ _ _ _
   | exact ih3 _ _ _ _ _ _ _ _ _ _
   | exact ih4 _ _ _ _ _ _ _ _ _ _ _ _
   | exact ih5 _ _ _ _ _ _ _ _ _
   | exact ih6 _ _ _ _ _ _ _ _ _ _
   | exact ih7 _ _ _ _ _ _ _ _ _ _ _ _
   | exact gimbalref0_CopyEntry.mono _ _ _
   | exact gimbalref0_CopyWords.mono _ _
   | exact gimbalref0_EqEntries.mono _ _ _
   | exact gimbalref0_EqEntry.mono _ _ _ _ _
   | exact gimbalref0_EqWords.mono _ _ _
   | exact gimbalref29_Pack.mono _ _ _
   | exact gimbalref29_Scan.mono _ _
   | exact log_Pack.mono _ _ _
   | exact LeO.none _
   | refine LeO.ite ?_ ?_
   | refine LeO.bind ?_ (fun _ => ?_)
set_option maxHeartbeats 8000000 in
set_option maxRecDepth 100000 in
theorem gimballaw30_LogExact.calls (k : Nat) (A0 : Option Addr) (c0 : Nat) (l0 : List (S30)) (r : Bool) (w : World) (hr0 : Kd.C k30 w A0 l0.length l0) (hc0 : l0.length ≤ c0) (h : gimballaw30_LogExact.f k l0 = some r) (hrt_ : Aside0 (r = true)) :
  Calls Try.prog 4 #[.slice A0 l0.length c0] w fun e w' => e = .returned (.bool r) ∧ Below w.heap.size w w' := by
 have hu30 := Try.underlying30
 have hu25 := Try.underlying25
 have HR0 := Aside0.mk hr0
 have HC0 := Aside0.mk hc0
 clear hr0 hc0
 have HB := Aside0.mk (Below.refl w.heap.size w)
 have H : (gimballaw30_LogExact.l0 k l0 0) = some r := h
 clear h
 have H' := Aside0.mk H
 clear H
 go_enter Try.func4, Try.ntmps4
 go_wp2
 refine Cu.wp_loop (Cu.f :: Cu.f :: Cu.t :: Cu.t :: Cu.t :: Cu.t :: Cu.t :: Cu.t :: Cu.t :: Cu.t :: Cu.t :: Cu.t :: Cu.t :: Cu.t :: Cu.t :: Cu.t :: Cu.t :: Cu.t :: Cu.t :: Cu.t :: Cu.t :: Cu.t :: Cu.t :: Cu.t :: Cu.t :: Cu.t :: Cu.t :: Cu.t :: Cu.t :: Cu.t :: Cu.t :: Cu.t :: Cu.t :: Cu.t :: Cu.t :: Cu.t :: Cu.t :: Cu.t :: Cu.t :: Cu.t :: Cu.t :: Cu.t :: Cu.t :: Cu.t :: Cu.t :: Cu.t :: Cu.t :: Cu.t :: Cu.t :: Cu.t :: Cu.t :: Cu.t :: Cu.t :: Cu.t :: Cu.t :: Cu.t :: Cu.t :: Cu.t :: Cu.t :: Cu.t :: Cu.t :: Cu.t :: Cu.t :: Cu.t :: Cu.t :: Cu.t :: Cu.t :: Cu.t :: Cu.t :: Cu.t :: Cu.t :: Cu.t :: Cu.t :: Cu.t :: Cu.t :: Cu.t :: Cu.t :: Cu.t :: Cu.t :: Cu.t :: Cu.t :: Cu.t :: Cu.t :: Cu.t :: Cu.t :: Cu.t :: Cu.t :: Cu.t :: Cu.t :: Cu.t :: Cu.t :: Cu.t :: Cu.t :: Cu.t :: Cu.t :: Cu.t :: Cu.t :: Cu.t :: Cu.t :: Cu.t :: Cu.t :: Cu.t :: Cu.t :: Cu.t :: Cu.t :: Cu.t :: Cu.t :: Cu.t :: Cu.t :: Cu.t :: Cu.t :: Cu.t :: Cu.t :: Cu.t :: Cu.t :: Cu.t :: Cu.t :: Cu.t :: Cu.t :: Cu.t :: Cu.t :: Cu.t :: Cu.t :: Cu.t :: Cu.t :: Cu.t :: Cu.t :: Cu.t :: Cu.t :: Cu.t :: Cu.t :: Cu.t :: Cu.t :: Cu.t :: Cu.t :: Cu.t :: Cu.t :: Cu.t :: Cu.t :: Cu.t :: Cu.t :: Cu.t :: Cu.t :: Cu.t :: Cu.t :: Cu.t :: Cu.t :: Cu.t :: Cu.t :: Cu.t :: Cu.t :: Cu.t :: Cu.t :: Cu.t :: Cu.t :: Cu.t :: Cu.t :: Cu.t :: Cu.t :: Cu.t :: Cu.t :: Cu.t :: Cu.t :: Cu.t :: Cu.f :: []) 162 (fun kq us_ w' => ∃ (x3_1 : Int), (Cu.nth us_ 1) = .int .i64 x3_1 ∧ Aside0 (gimballaw30_LogExact.l0 kq l0 x3_1 = some r) ∧ Aside0 (kq ≤ k) ∧ Aside0 (Below w.heap.size w w')) k ?_ (by kernel_rfl) (by kernel_rfl) ?_
 · try dsimp only [Cu.pick, Cu.nth]
   exact ⟨(0), Sq.e, H', ⟨Nat.le_refl _⟩, ⟨Sq.w HB.out⟩⟩
 ·
  intro gk wr u2 u3 u4 u5 u6 u7 u8 u9 u10 u11 u12 u13 u14 u15 u16 u17 u18 u19 u20 u21 u22 u23 u24 u25 u26 u27 u28 u29 u30 u31 u32 u33 u34 u35 u36 u37 u38 u39 u40 u41 u42 u43 u44 u45 u46 u47 u48 u49 u50 u51 u52 u53 u54 u55 u56 u57 u58 u59 u60 u61 u62 u63 u64 u65 u66 u67 u68 u69 u70 u71 u72 u73 u74 u75 u76 u77 u78 u79 u80 u81 u82 u83 u84 u85 u86 u87 u88 u89 u90 u91 u92 u93 u94 u95 u96 u97 u98 u99 u100 u101 u102 u103 u104 u105 u106 u107 u108 u109 u110 u111 u112 u113 u114 u115 u116 u117 u118 u119 u120 u121 u122 u123 u124 u125 u126 u127 u128 u129 u130 u131 u132 u133 u134 u135 u136 u137 u138 u139 u140 u141 u142 u143 u144 u145 u146 u147 u148 u149 u150 u151 u152 u153 u154 u155 u156 u157 u158 u159 u160 u161 u162 u163
  try dsimp only [Cu.over, Cu.nth]
  intro hrel _ _ _ _
  clear H'
  obtain ⟨x3_1, rfl, HA, HK1, HB⟩ := hrel
  cases gk with
  | zero => exact absurd HA.out (by simp [gimballaw30_LogExact.l0])
  | succ k1 =>
   have H := HA.out
   clear HA
   simp only [gimballaw30_LogExact.l0] at H
   have HC2 := Aside0.mk H
   clear H
   go_upto_region 2 with (fail)
   refine Cu.wp_cut (Cu.f :: Cu.f :: Cu.f :: Cu.f :: Cu.f :: Cu.f :: Cu.f :: Cu.f :: Cu.f :: Cu.f :: Cu.f :: Cu.f :: Cu.f :: Cu.f :: Cu.f :: Cu.f :: Cu.f :: Cu.f :: Cu.f :: Cu.f :: Cu.f :: Cu.f :: Cu.t :: Cu.t :: Cu.t :: Cu.t :: Cu.t :: Cu.t :: Cu.t :: Cu.t :: Cu.t :: Cu.t :: Cu.t :: Cu.t :: Cu.t :: Cu.t :: Cu.t :: Cu.t :: Cu.t :: Cu.t :: Cu.t :: Cu.t :: Cu.t :: Cu.t :: Cu.t :: Cu.t :: Cu.t :: Cu.t :: Cu.t :: Cu.t :: Cu.t :: Cu.t :: Cu.t :: Cu.t :: Cu.t :: Cu.t :: Cu.t :: Cu.t :: Cu.t :: Cu.t :: Cu.t :: Cu.t :: Cu.t :: Cu.t :: Cu.t :: Cu.t :: Cu.t :: Cu.t :: Cu.t :: Cu.t :: Cu.t :: Cu.t :: Cu.t :: Cu.t :: Cu.t :: Cu.t :: Cu.t :: Cu.t :: Cu.t :: Cu.t :: Cu.t :: Cu.t :: Cu.t :: Cu.t :: Cu.t :: Cu.t :: Cu.t :: Cu.t :: Cu.t :: Cu.t :: Cu.t :: Cu.t :: Cu.t :: Cu.t :: Cu.t :: Cu.t :: Cu.t :: Cu.t :: Cu.t :: Cu.t :: Cu.t :: Cu.t :: Cu.t :: Cu.t :: Cu.t :: Cu.t :: Cu.t :: Cu.t :: Cu.t :: Cu.t :: Cu.t :: Cu.t :: Cu.t :: Cu.t :: Cu.t :: Cu.t :: Cu.t :: Cu.t :: Cu.t :: Cu.t :: Cu.t :: Cu.t :: Cu.t :: Cu.t :: Cu.t :: Cu.t :: Cu.t :: Cu.t :: Cu.t :: Cu.t :: Cu.t :: Cu.t :: Cu.t :: Cu.t :: Cu.t :: Cu.t :: Cu.t :: Cu.t :: Cu.t :: Cu.t :: Cu.t :: Cu.t :: Cu.t :: Cu.t :: Cu.t :: Cu.t :: Cu.t :: Cu.t :: Cu.t :: Cu.t :: Cu.t :: Cu.t :: Cu.t :: Cu.t :: Cu.t :: Cu.t :: Cu.t :: Cu.t :: Cu.t :: Cu.t :: Cu.t :: Cu.t :: Cu.t :: Cu.t :: Cu.f :: []) 142 (fun us_ wc => ∃ (kq : Nat) (x29_1 : Bool), (Cu.nth us_ 7) = .bool x29_1 ∧ Aside0 (gimballaw30_LogExact.j1 kq l0 x3_1 x29_1 = some r) ∧ Aside0 (kq ≤ k1) ∧ Aside0 (Below w.heap.size w wc)) ?_ ?_
   ·
    intro _ _ _ _
    have H := HC2.out
    clear HC2
    by_cases c3 : x3_1 < (l0.length : Int)
    ·rw [if_pos c3] at H
     have c3b0 : decide (x3_1 < (l0.length : Int)) = true := decide_eq_true c3
     clear c3
     (first | rw [c3b0] | (simp only [i64_w, i32_w]; rw [c3b0]) | skip)
     have H' := Aside0.mk H
     clear H
     go_wp2
     refine Cu.meet (by assumption) ?_ (by kernel_rfl) (by kernel_rfl)
     try dsimp only [Cu.pick, Cu.nth]
     exact ⟨_, (decide (x3_1 < 10)), Sq.e, H', ⟨by have := HK1.out; first | omega | exact Nat.le_refl _⟩, ⟨Sq.w HB.out⟩⟩
    ·rw [if_neg c3] at H
     have c3b0 : decide (x3_1 < (l0.length : Int)) = false := decide_eq_false c3
     clear c3
     (first | rw [c3b0] | (simp only [i64_w, i32_w]; rw [c3b0]) | skip)
     have H' := Aside0.mk H
     clear H
     go_wp2
     refine Cu.meet (by assumption) ?_ (by kernel_rfl) (by kernel_rfl)
     try dsimp only [Cu.pick, Cu.nth]
     exact ⟨_, (false), Sq.e, H', ⟨by have := HK1.out; first | omega | exact Nat.le_refl _⟩, ⟨Sq.w HB.out⟩⟩
   ·
    intro wc u22 u23 u24 u25 u26 u27 u28 u29 u30 u31 u32 u33 u34 u35 u36 u37 u38 u39 u40 u41 u42 u43 u44 u45 u46 u47 u48 u49 u50 u51 u52 u53 u54 u55 u56 u57 u58 u59 u60 u61 u62 u63 u64 u65 u66 u67 u68 u69 u70 u71 u72 u73 u74 u75 u76 u77 u78 u79 u80 u81 u82 u83 u84 u85 u86 u87 u88 u89 u90 u91 u92 u93 u94 u95 u96 u97 u98 u99 u100 u101 u102 u103 u104 u105 u106 u107 u108 u109 u110 u111 u112 u113 u114 u115 u116 u117 u118 u119 u120 u121 u122 u123 u124 u125 u126 u127 u128 u129 u130 u131 u132 u133 u134 u135 u136 u137 u138 u139 u140 u141 u142 u143 u144 u145 u146 u147 u148 u149 u150 u151 u152 u153 u154 u155 u156 u157 u158 u159 u160 u161 u162 u163
    try dsimp only [Cu.over, Cu.nth]
    intro hcut
    clear HC2
    obtain ⟨kq, x29_1, rfl, HA, HJ1, HB⟩ := hcut
    cases kq with
    | zero => exact absurd HA.out (by simp [gimballaw30_LogExact.j1])
    | succ kj1 =>
     have H := HA.out
     clear HA
     simp only [gimballaw30_LogExact.j1] at H
     by_cases c4 : x29_1 = true
     ·subst c4
      have H1 : (if 0 ≤ x3_1 then (if x3_1 < (l0.length : Int) then ((gimballaw30_heavy.f ((rd_T30 l0 x3_1).f0.f0) ((rd_T30 l0 x3_1).f0.f1) ((rd_T30 l0 x3_1).f1) ((rd_T30 l0 x3_1).f2) ((rd_T30 l0 x3_1).f3) ((rd_T30 l0 x3_1).f4) ((rd_T30 l0 x3_1).f5)).bind fun t195 => (if t195 = true then (some true) else ((gimbalref29_MayEntry.f ((rd_T30 l0 x3_1).f0.f0) ((rd_T30 l0 x3_1).f0.f1)).bind fun t196 => (if t196 = true then ((gimbalref29_Pack.f kj1 ((rd_T30 l0 x3_1).f0.f0) ((rd_T30 l0 x3_1).f0.f1)).bind fun t197 => (gimballaw30_LogExact.j2 kj1 l0 x3_1 0 t197 ((rd_T30 l0 x3_1).f0.f0) ((rd_T30 l0 x3_1).f0.f1) ((rd_T30 l0 x3_1).f1) ((rd_T30 l0 x3_1).f2) ((rd_T30 l0 x3_1).f3) ((rd_T30 l0 x3_1).f4) ((rd_T30 l0 x3_1).f5))) else (gimballaw30_LogExact.j2 kj1 l0 x3_1 1 ([] : List Int) ((rd_T30 l0 x3_1).f0.f0) ((rd_T30 l0 x3_1).f0.f1) ((rd_T30 l0 x3_1).f1) ((rd_T30 l0 x3_1).f2) ((rd_T30 l0 x3_1).f3) ((rd_T30 l0 x3_1).f4) ((rd_T30 l0 x3_1).f5)))))) else (none)) else (none)) = some r := by rw [if_pos rfl] at H; exact H
      clear H
      have H := H1
      clear H1
      by_cases c5 : 0 ≤ x3_1
      ·rw [if_pos c5] at H
       have c5b0 : decide (0 ≤ x3_1) = true := decide_eq_true c5
       clear c5
       by_cases c6 : x3_1 < (l0.length : Int)
       ·rw [if_pos c6] at H
        have c6b0 : decide (x3_1 < (l0.length : Int)) = true := decide_eq_true c6
        clear c6
        replace H := Option.bind_eq_some_iff.mp H
        obtain ⟨t195, A70, H⟩ := H
        replace H : (if t195 = true then (some true) else ((gimbalref29_MayEntry.f ((rd_T30 l0 x3_1).f0.f0) ((rd_T30 l0 x3_1).f0.f1)).bind fun t196 => (if t196 = true then ((gimbalref29_Pack.f kj1 ((rd_T30 l0 x3_1).f0.f0) ((rd_T30 l0 x3_1).f0.f1)).bind fun t197 => (gimballaw30_LogExact.j2 kj1 l0 x3_1 0 t197 ((rd_T30 l0 x3_1).f0.f0) ((rd_T30 l0 x3_1).f0.f1) ((rd_T30 l0 x3_1).f1) ((rd_T30 l0 x3_1).f2) ((rd_T30 l0 x3_1).f3) ((rd_T30 l0 x3_1).f4) ((rd_T30 l0 x3_1).f5))) else (gimballaw30_LogExact.j2 kj1 l0 x3_1 1 ([] : List Int) ((rd_T30 l0 x3_1).f0.f0) ((rd_T30 l0 x3_1).f0.f1) ((rd_T30 l0 x3_1).f1) ((rd_T30 l0 x3_1).f2) ((rd_T30 l0 x3_1).f3) ((rd_T30 l0 x3_1).f4) ((rd_T30 l0 x3_1).f5))))) = some r := H
        have A7 := Aside0.mk A70
        clear A70
        by_cases c8 : t195 = true
        ·subst c8
         have H1 : (some true) = some r := by rw [if_pos rfl] at H; exact H
         clear H
         have H := H1
         clear H1
         obtain rfl := Option.some.inj H
         have p193 : 0 ≤ (x3_1 : Int) := of_decide_eq_true (by first | (with_reducible assumption) | assumption)
         have q193 : x3_1 < (l0.length : Int) := of_decide_eq_true (by first | (with_reducible assumption) | assumption)
         obtain ⟨ad193, A193_1, c193_1, A193_4, c193_4, A193_5, c193_5, e193, hx193_0, hx193_1, hx193_2, hx193_3, hx193_4, hx193_5, hx193_6, hl193_1, hi193_1, hl193_4, hi193_4, hl193_5, hi193_5⟩ := at_T30 HR0.out x3_1 p193 q193
         cases e193
         replace hx193_0 := (HB.out.cell (World.block_lt_of_cell? w _ hx193_0)).trans hx193_0
         replace hx193_1 := (HB.out.cell (World.block_lt_of_cell? w _ hx193_1)).trans hx193_1
         replace hx193_2 := (HB.out.cell (World.block_lt_of_cell? w _ hx193_2)).trans hx193_2
         replace hx193_3 := (HB.out.cell (World.block_lt_of_cell? w _ hx193_3)).trans hx193_3
         replace hx193_4 := (HB.out.cell (World.block_lt_of_cell? w _ hx193_4)).trans hx193_4
         replace hx193_5 := (HB.out.cell (World.block_lt_of_cell? w _ hx193_5)).trans hx193_5
         replace hx193_6 := (HB.out.cell (World.block_lt_of_cell? w _ hx193_6)).trans hx193_6
         have HR193_1 := Aside0.mk hi193_1
         have HC193_1 := Aside0.mk hl193_1
         clear hi193_1 hl193_1
         have HR193_4 := Aside0.mk hi193_4
         have HC193_4 := Aside0.mk hl193_4
         clear hi193_4 hl193_4
         have HR193_5 := Aside0.mk hi193_5
         have HC193_5 := Aside0.mk hl193_5
         clear hi193_5 hl193_5
         replace p193 := eq_true p193
         replace q193 := eq_true q193
         go_wp2_with (first | ((with_reducible refine gate_dst (N := 4) rfl ?_); refine box_event ?hg (N := 4) ?hd (cs := #[.int .i64 0, .slice none 0 0, .int .i64 0, .int .u32 0, .slice none 0 0, .slice none 0 0, .int .i64 0]) (t := 30) ?hr ?_; (case hd => rfl); (case hg => rfl); (case hr => first | (go_simp; done) | (go_simp; rfl)); intro gb194 hg w9 hbox hb; have BK194 := Aside0.mk hbox; have GW194 := Sq.ge hg HB; have GE194 := Sq.ge hg HB; replace HB := Sq.sw HB hb; clear hb hbox hg; obtain ⟨z10_0, z10_1, z10_2, z10_3, z10_4, z10_5, z10_6⟩ := Sq.c7 BK194.out; obtain ⟨y10_0, y10_1, y10_2, y10_3, y10_4, y10_5, y10_6⟩ := Sq.f7 BK194.out) | ((with_reducible refine gate_callee (f := 6) rfl ?_); refine goesL_ (some 37) rfl rfl Try.func6 (by kernel_rfl) rfl #[.agg #[.int .i64 ((rd_T30 l0 x3_1).f0.f0), .slice A193_1 ((rd_T30 l0 x3_1).f0.f1).length c193_1, .int .i64 ((rd_T30 l0 x3_1).f1), .int .u32 ((rd_T30 l0 x3_1).f2), .slice A193_4 ((rd_T30 l0 x3_1).f3).length c193_4, .slice A193_5 ((rd_T30 l0 x3_1).f4).length c193_5, .int .i64 ((rd_T30 l0 x3_1).f5)]] rfl Sq.m ?_; (with_reducible refine (gimballaw30_heavy.calls ((rd_T30 l0 x3_1).f0.f0) _ _ ((rd_T30 l0 x3_1).f0.f1) ((rd_T30 l0 x3_1).f1) ((rd_T30 l0 x3_1).f2) _ _ ((rd_T30 l0 x3_1).f3) _ _ ((rd_T30 l0 x3_1).f4) ((rd_T30 l0 x3_1).f5) true _ ?side1 ?side2 ?side3 ?side4 ?side5 ?side6 A7.out).mono ?_); (case side1 => exact Kd.C_below HR193_1.out (Sq.w HB.out)); (case side2 => exact HC193_1.out); (case side3 => exact Kd.C_below HR193_4.out (Sq.w HB.out)); (case side4 => exact HC193_4.out); (case side5 => exact Kd.C_below HR193_5.out (Sq.w HB.out)); (case side6 => exact HC193_5.out); rintro e w11 ⟨rfl, hb⟩; refine ⟨_, rfl, ?_⟩; replace BK194 := Aside0.mk (blk_below (g := gb194) (o := .cells #[.int .i64 ((rd_T30 l0 x3_1).f0.f0), .slice A193_1 ((rd_T30 l0 x3_1).f0.f1).length c193_1, .int .i64 ((rd_T30 l0 x3_1).f1), .int .u32 ((rd_T30 l0 x3_1).f2), .slice A193_4 ((rd_T30 l0 x3_1).f3).length c193_4, .slice A193_5 ((rd_T30 l0 x3_1).f4).length c193_5, .int .i64 ((rd_T30 l0 x3_1).f5)] 30 (0, 0)) (Sq.B BK194.out) hb); replace HB := Sq.sw HB hb; (try clear hb); (try clear hb2); (try clear hk); (try clear hi)))
         go_ret
         exact ⟨by first | rfl | (simp [errW_none, errW_some] <;> rfl) | (simp [*, errW_none, errW_some] <;> rfl), Sq.w HB.out⟩
        ·replace c8 := Bool.eq_false_iff.mpr c8
         subst c8
         have H1 : ((gimbalref29_MayEntry.f ((rd_T30 l0 x3_1).f0.f0) ((rd_T30 l0 x3_1).f0.f1)).bind fun t196 => (if t196 = true then ((gimbalref29_Pack.f kj1 ((rd_T30 l0 x3_1).f0.f0) ((rd_T30 l0 x3_1).f0.f1)).bind fun t197 => (gimballaw30_LogExact.j2 kj1 l0 x3_1 0 t197 ((rd_T30 l0 x3_1).f0.f0) ((rd_T30 l0 x3_1).f0.f1) ((rd_T30 l0 x3_1).f1) ((rd_T30 l0 x3_1).f2) ((rd_T30 l0 x3_1).f3) ((rd_T30 l0 x3_1).f4) ((rd_T30 l0 x3_1).f5))) else (gimballaw30_LogExact.j2 kj1 l0 x3_1 1 ([] : List Int) ((rd_T30 l0 x3_1).f0.f0) ((rd_T30 l0 x3_1).f0.f1) ((rd_T30 l0 x3_1).f1) ((rd_T30 l0 x3_1).f2) ((rd_T30 l0 x3_1).f3) ((rd_T30 l0 x3_1).f4) ((rd_T30 l0 x3_1).f5)))) = some r := by rw [if_neg (show ¬ (false = true) by decide)] at H; exact H
         clear H
         have H := H1
         clear H1
         replace H := Option.bind_eq_some_iff.mp H
         obtain ⟨t196, A120, H⟩ := H
         replace H : (if t196 = true then ((gimbalref29_Pack.f kj1 ((rd_T30 l0 x3_1).f0.f0) ((rd_T30 l0 x3_1).f0.f1)).bind fun t197 => (gimballaw30_LogExact.j2 kj1 l0 x3_1 0 t197 ((rd_T30 l0 x3_1).f0.f0) ((rd_T30 l0 x3_1).f0.f1) ((rd_T30 l0 x3_1).f1) ((rd_T30 l0 x3_1).f2) ((rd_T30 l0 x3_1).f3) ((rd_T30 l0 x3_1).f4) ((rd_T30 l0 x3_1).f5))) else (gimballaw30_LogExact.j2 kj1 l0 x3_1 1 ([] : List Int) ((rd_T30 l0 x3_1).f0.f0) ((rd_T30 l0 x3_1).f0.f1) ((rd_T30 l0 x3_1).f1) ((rd_T30 l0 x3_1).f2) ((rd_T30 l0 x3_1).f3) ((rd_T30 l0 x3_1).f4) ((rd_T30 l0 x3_1).f5))) = some r := H
         have A12 := Aside0.mk A120
         clear A120
         have HC13 := Aside0.mk H
         clear H
         have p193 : 0 ≤ (x3_1 : Int) := of_decide_eq_true (by first | (with_reducible assumption) | assumption)
         have q193 : x3_1 < (l0.length : Int) := of_decide_eq_true (by first | (with_reducible assumption) | assumption)
         obtain ⟨ad193, A193_1, c193_1, A193_4, c193_4, A193_5, c193_5, e193, hx193_0, hx193_1, hx193_2, hx193_3, hx193_4, hx193_5, hx193_6, hl193_1, hi193_1, hl193_4, hi193_4, hl193_5, hi193_5⟩ := at_T30 HR0.out x3_1 p193 q193
         cases e193
         replace hx193_0 := (HB.out.cell (World.block_lt_of_cell? w _ hx193_0)).trans hx193_0
         replace hx193_1 := (HB.out.cell (World.block_lt_of_cell? w _ hx193_1)).trans hx193_1
         replace hx193_2 := (HB.out.cell (World.block_lt_of_cell? w _ hx193_2)).trans hx193_2
         replace hx193_3 := (HB.out.cell (World.block_lt_of_cell? w _ hx193_3)).trans hx193_3
         replace hx193_4 := (HB.out.cell (World.block_lt_of_cell? w _ hx193_4)).trans hx193_4
         replace hx193_5 := (HB.out.cell (World.block_lt_of_cell? w _ hx193_5)).trans hx193_5
         replace hx193_6 := (HB.out.cell (World.block_lt_of_cell? w _ hx193_6)).trans hx193_6
         have HR193_1 := Aside0.mk hi193_1
         have HC193_1 := Aside0.mk hl193_1
         clear hi193_1 hl193_1
         have HR193_4 := Aside0.mk hi193_4
         have HC193_4 := Aside0.mk hl193_4
         clear hi193_4 hl193_4
         have HR193_5 := Aside0.mk hi193_5
         have HC193_5 := Aside0.mk hl193_5
         clear hi193_5 hl193_5
         replace p193 := eq_true p193
         replace q193 := eq_true q193
         go_upto_if 40 with (first | ((with_reducible refine gate_dst (N := 4) rfl ?_); refine box_event ?hg (N := 4) ?hd (cs := #[.int .i64 0, .slice none 0 0, .int .i64 0, .int .u32 0, .slice none 0 0, .slice none 0 0, .int .i64 0]) (t := 30) ?hr ?_; (case hd => rfl); (case hg => rfl); (case hr => first | (go_simp; done) | (go_simp; rfl)); intro gb194 hg w14 hbox hb; have BK194 := Aside0.mk hbox; have GW194 := Sq.ge hg HB; have GE194 := Sq.ge hg HB; replace HB := Sq.sw HB hb; clear hb hbox hg; obtain ⟨z15_0, z15_1, z15_2, z15_3, z15_4, z15_5, z15_6⟩ := Sq.c7 BK194.out; obtain ⟨y15_0, y15_1, y15_2, y15_3, y15_4, y15_5, y15_6⟩ := Sq.f7 BK194.out) | ((with_reducible refine gate_callee (f := 6) rfl ?_); refine goesL_ (some 37) rfl rfl Try.func6 (by kernel_rfl) rfl #[.agg #[.int .i64 ((rd_T30 l0 x3_1).f0.f0), .slice A193_1 ((rd_T30 l0 x3_1).f0.f1).length c193_1, .int .i64 ((rd_T30 l0 x3_1).f1), .int .u32 ((rd_T30 l0 x3_1).f2), .slice A193_4 ((rd_T30 l0 x3_1).f3).length c193_4, .slice A193_5 ((rd_T30 l0 x3_1).f4).length c193_5, .int .i64 ((rd_T30 l0 x3_1).f5)]] rfl Sq.m ?_; (with_reducible refine (gimballaw30_heavy.calls ((rd_T30 l0 x3_1).f0.f0) _ _ ((rd_T30 l0 x3_1).f0.f1) ((rd_T30 l0 x3_1).f1) ((rd_T30 l0 x3_1).f2) _ _ ((rd_T30 l0 x3_1).f3) _ _ ((rd_T30 l0 x3_1).f4) ((rd_T30 l0 x3_1).f5) false _ ?side1 ?side2 ?side3 ?side4 ?side5 ?side6 A7.out).mono ?_); (case side1 => exact Kd.C_below HR193_1.out (Sq.w HB.out)); (case side2 => exact HC193_1.out); (case side3 => exact Kd.C_below HR193_4.out (Sq.w HB.out)); (case side4 => exact HC193_4.out); (case side5 => exact Kd.C_below HR193_5.out (Sq.w HB.out)); (case side6 => exact HC193_5.out); rintro e w16 ⟨rfl, hb⟩; refine ⟨_, rfl, ?_⟩; replace BK194 := Aside0.mk (blk_below (g := gb194) (o := .cells #[.int .i64 ((rd_T30 l0 x3_1).f0.f0), .slice A193_1 ((rd_T30 l0 x3_1).f0.f1).length c193_1, .int .i64 ((rd_T30 l0 x3_1).f1), .int .u32 ((rd_T30 l0 x3_1).f2), .slice A193_4 ((rd_T30 l0 x3_1).f3).length c193_4, .slice A193_5 ((rd_T30 l0 x3_1).f4).length c193_5, .int .i64 ((rd_T30 l0 x3_1).f5)] 30 (0, 0)) (Sq.B BK194.out) hb); replace HB := Sq.sw HB hb; obtain ⟨z17_0, z17_1, z17_2, z17_3, z17_4, z17_5, z17_6⟩ := Sq.c7 BK194.out; obtain ⟨y17_0, y17_1, y17_2, y17_3, y17_4, y17_5, y17_6⟩ := Sq.f7 BK194.out) | ((with_reducible refine gate_callee (f := 7) rfl ?_); refine goesL_ (some 40) rfl rfl Try.func7 (by kernel_rfl) rfl #[.agg #[.int .i64 ((rd_T30 l0 x3_1).f0.f0), .slice A193_1 ((rd_T30 l0 x3_1).f0.f1).length c193_1]] rfl Sq.m ?_; (with_reducible refine (gimbalref29_MayEntry.calls ((rd_T30 l0 x3_1).f0.f0) _ _ ((rd_T30 l0 x3_1).f0.f1) t196 _ ?side1 ?side2 A12.out).mono ?_); (case side1 => repeat (first | exact (Kd.C_below HR193_1.out HB.out) | (with_reducible refine Kd.C_alloc ?_ _) | (with_reducible refine Kd.C_drewN ?_ _) | (with_reducible refine Kd.C_drew ?_))); (case side2 => exact HC193_1.out); rintro e w18 ⟨rfl, hb⟩; refine ⟨_, rfl, ?_⟩; replace BK194 := Sq.sb BK194 hb; replace HB := Sq.sw HB hb; ))
         (try simp only [Act.put, List.setIfInBounds_toArray, List.set_cons_zero, List.set_cons_succ])
         refine Cu.wp_cut (Cu.f :: Cu.f :: Cu.f :: Cu.f :: Cu.f :: Cu.t :: Cu.t :: Cu.f :: Cu.f :: Cu.f :: Cu.f :: Cu.f :: Cu.f :: Cu.f :: Cu.f :: Cu.f :: Cu.f :: Cu.f :: Cu.f :: Cu.f :: Cu.f :: Cu.f :: Cu.t :: Cu.t :: Cu.t :: Cu.t :: Cu.t :: Cu.t :: Cu.t :: Cu.t :: Cu.t :: Cu.t :: Cu.t :: Cu.t :: Cu.t :: Cu.t :: Cu.t :: Cu.t :: Cu.t :: Cu.t :: Cu.t :: Cu.t :: Cu.t :: Cu.t :: Cu.t :: Cu.t :: Cu.t :: Cu.t :: Cu.t :: Cu.t :: Cu.t :: Cu.t :: Cu.t :: Cu.t :: Cu.t :: Cu.t :: Cu.t :: Cu.t :: Cu.t :: Cu.t :: Cu.t :: Cu.t :: Cu.t :: Cu.t :: Cu.t :: Cu.t :: Cu.t :: Cu.t :: Cu.t :: Cu.t :: Cu.t :: Cu.t :: Cu.t :: Cu.t :: Cu.t :: Cu.t :: Cu.t :: Cu.t :: Cu.t :: Cu.t :: Cu.t :: Cu.t :: Cu.t :: Cu.t :: Cu.t :: Cu.t :: Cu.t :: Cu.t :: Cu.t :: Cu.t :: Cu.t :: Cu.t :: Cu.t :: Cu.t :: Cu.t :: Cu.t :: Cu.t :: Cu.t :: Cu.t :: Cu.t :: Cu.t :: Cu.t :: Cu.t :: Cu.t :: Cu.t :: Cu.t :: Cu.t :: Cu.t :: Cu.t :: Cu.t :: Cu.t :: Cu.t :: Cu.t :: Cu.t :: Cu.t :: Cu.t :: Cu.t :: Cu.t :: Cu.t :: Cu.t :: Cu.t :: Cu.t :: Cu.t :: Cu.t :: Cu.t :: Cu.t :: Cu.t :: Cu.t :: Cu.t :: Cu.t :: Cu.t :: Cu.t :: Cu.t :: Cu.t :: Cu.t :: Cu.t :: Cu.t :: Cu.t :: Cu.t :: Cu.t :: Cu.t :: Cu.t :: Cu.t :: Cu.t :: Cu.t :: Cu.t :: Cu.t :: Cu.t :: Cu.t :: Cu.t :: Cu.t :: Cu.t :: Cu.t :: Cu.t :: Cu.t :: Cu.t :: Cu.t :: Cu.t :: Cu.t :: Cu.t :: Cu.t :: Cu.t :: Cu.t :: Cu.t :: Cu.f :: []) 144 (fun us_ wc => ∃ (kq : Nat) (x5_12 : Int) (x6_12 : List Int), (Cu.nth us_ 0) = .int .i64 x5_12 ∧ Aside0 (gimballaw30_LogExact.j2 kq l0 x3_1 x5_12 x6_12 ((rd_T30 l0 x3_1).f0.f0) ((rd_T30 l0 x3_1).f0.f1) ((rd_T30 l0 x3_1).f1) ((rd_T30 l0 x3_1).f2) ((rd_T30 l0 x3_1).f3) ((rd_T30 l0 x3_1).f4) ((rd_T30 l0 x3_1).f5) = some r) ∧ Aside0 (kq ≤ kj1) ∧ Aside0 (Kd.R (Kd.int .u32) 26 wc w.heap.size (fun _ => True) (Cu.nth us_ 1) x6_12) ∧ Aside0 (wc.heap[gb194]? = some (.cells #[.int .i64 ((rd_T30 l0 x3_1).f0.f0), (.slice A193_1 ((rd_T30 l0 x3_1).f0.f1).length c193_1), .int .i64 ((rd_T30 l0 x3_1).f1), .int .u32 ((rd_T30 l0 x3_1).f2), (.slice A193_4 ((rd_T30 l0 x3_1).f3).length c193_4), (.slice A193_5 ((rd_T30 l0 x3_1).f4).length c193_5), .int .i64 ((rd_T30 l0 x3_1).f5)] 30 (0, 0))) ∧ Aside0 (Below w.heap.size w wc)) ?_ ?_
         ·
          intro _ _ _ _
          have H := HC13.out
          clear HC13
          by_cases c19 : t196 = true
          ·subst c19
           have H1 : ((gimbalref29_Pack.f kj1 ((rd_T30 l0 x3_1).f0.f0) ((rd_T30 l0 x3_1).f0.f1)).bind fun t197 => (gimballaw30_LogExact.j2 kj1 l0 x3_1 0 t197 ((rd_T30 l0 x3_1).f0.f0) ((rd_T30 l0 x3_1).f0.f1) ((rd_T30 l0 x3_1).f1) ((rd_T30 l0 x3_1).f2) ((rd_T30 l0 x3_1).f3) ((rd_T30 l0 x3_1).f4) ((rd_T30 l0 x3_1).f5))) = some r := by rw [if_pos rfl] at H; exact H
           clear H
           have H := H1
           clear H1
           replace H := Option.bind_eq_some_iff.mp H
           obtain ⟨t197, A200, H⟩ := H
           replace H : (gimballaw30_LogExact.j2 kj1 l0 x3_1 0 t197 ((rd_T30 l0 x3_1).f0.f0) ((rd_T30 l0 x3_1).f0.f1) ((rd_T30 l0 x3_1).f1) ((rd_T30 l0 x3_1).f2) ((rd_T30 l0 x3_1).f3) ((rd_T30 l0 x3_1).f4) ((rd_T30 l0 x3_1).f5)) = some r := H
           have A20 := Aside0.mk A200
           clear A200
           have H' := Aside0.mk H
           clear H
           obtain ⟨z21_0, z21_1, z21_2, z21_3, z21_4, z21_5, z21_6⟩ := Sq.c7 BK194.out
           obtain ⟨y21_0, y21_1, y21_2, y21_3, y21_4, y21_5, y21_6⟩ := Sq.f7 BK194.out
           go_wp2_with (first | ((with_reducible refine gate_callee (f := 16) rfl ?_); refine goesL_ (some 43) rfl rfl Try.func16 (by kernel_rfl) rfl #[.agg #[.int .i64 ((rd_T30 l0 x3_1).f0.f0), .slice A193_1 ((rd_T30 l0 x3_1).f0.f1).length c193_1]] rfl Sq.m ?_; (with_reducible refine (gimbalref29_Pack.calls kj1 ((rd_T30 l0 x3_1).f0.f0) _ _ ((rd_T30 l0 x3_1).f0.f1) t197 _ ?side1 ?side2 A20.out).mono ?_); (case side1 => repeat (first | exact (Kd.C_below HR193_1.out HB.out) | (with_reducible refine Kd.C_alloc ?_ _) | (with_reducible refine Kd.C_drewN ?_ _) | (with_reducible refine Kd.C_drew ?_))); (case side2 => exact HC193_1.out); rintro e w22 ⟨v198, rfl, ho0, hb⟩; refine ⟨_, rfl, ?_⟩; have HO199 := Aside0.mk (Kd.R_lower ho0 (below_size (Sq.w HB.out))); replace BK194 := Sq.sb BK194 hb; replace HB := Sq.sw HB hb; (try clear hb); (try clear hb2); (try clear hk); (try clear hi); (try clear ho0)))
           refine Cu.meet (by assumption) ?_ (by kernel_rfl) (by kernel_rfl)
           try dsimp only [Cu.pick, Cu.nth]
           exact ⟨_, (0), (t197), Sq.e, H', ⟨by have := HK1.out; have := HJ1.out; first | omega | exact Nat.le_refl _⟩, ⟨Sq.rR HO199.out⟩, ⟨Sq.b BK194.out⟩, ⟨Sq.w HB.out⟩⟩
          ·replace c19 := Bool.eq_false_iff.mpr c19
           subst c19
           have H1 : (gimballaw30_LogExact.j2 kj1 l0 x3_1 1 ([] : List Int) ((rd_T30 l0 x3_1).f0.f0) ((rd_T30 l0 x3_1).f0.f1) ((rd_T30 l0 x3_1).f1) ((rd_T30 l0 x3_1).f2) ((rd_T30 l0 x3_1).f3) ((rd_T30 l0 x3_1).f4) ((rd_T30 l0 x3_1).f5)) = some r := by rw [if_neg (show ¬ (false = true) by decide)] at H; exact H
           clear H
           have H := H1
           clear H1
           have H' := Aside0.mk H
           clear H
           go_wp2
           refine Cu.meet (by assumption) ?_ (by kernel_rfl) (by kernel_rfl)
           try dsimp only [Cu.pick, Cu.nth]
           exact ⟨_, (1), (([] : List Int)), Sq.e, H', ⟨by have := HK1.out; have := HJ1.out; first | omega | exact Nat.le_refl _⟩, ⟨by first | exact Kd.R_nil _ _ _ _ _ | exact Kd.N_nil _ _ _ _ _ | exact Kd.V_nil _ _ _ _ _ | exact Kd.Q_nil _ _ _ _ _ | exact Kd.S_nil _ _ _ _ _⟩, ⟨Sq.b BK194.out⟩, ⟨Sq.w HB.out⟩⟩
         ·
          intro wc u5 u6 u22 u23 u24 u25 u26 u27 u28 u29 u30 u31 u32 u33 u34 u35 u36 u37 u38 u39 u40 u41 u42 u43 u44 u45 u46 u47 u48 u49 u50 u51 u52 u53 u54 u55 u56 u57 u58 u59 u60 u61 u62 u63 u64 u65 u66 u67 u68 u69 u70 u71 u72 u73 u74 u75 u76 u77 u78 u79 u80 u81 u82 u83 u84 u85 u86 u87 u88 u89 u90 u91 u92 u93 u94 u95 u96 u97 u98 u99 u100 u101 u102 u103 u104 u105 u106 u107 u108 u109 u110 u111 u112 u113 u114 u115 u116 u117 u118 u119 u120 u121 u122 u123 u124 u125 u126 u127 u128 u129 u130 u131 u132 u133 u134 u135 u136 u137 u138 u139 u140 u141 u142 u143 u144 u145 u146 u147 u148 u149 u150 u151 u152 u153 u154 u155 u156 u157 u158 u159 u160 u161 u162 u163
          try dsimp only [Cu.over, Cu.nth]
          intro hcut
          clear HC13; (try clear c4); (try clear c5b0); (try clear c6b0); (try clear c8); (try clear z15_0 z15_1 z15_2 z15_3 z15_4 z15_5 z15_6); (try clear z17_0 z17_1 z17_2 z17_3 z17_4 z17_5 z17_6); (try clear y15_0 y15_1 y15_2 y15_3 y15_4 y15_5 y15_6); (try clear y17_0 y17_1 y17_2 y17_3 y17_4 y17_5 y17_6); (try clear hx193_0); (try clear hx193_1); (try clear hx193_2); (try clear hx193_3); (try clear hx193_4); (try clear hx193_5); (try clear hx193_6); (try clear p193); (try clear q193)
          obtain ⟨kq, x5_12, x6_12, rfl, HA, HJ12, HO_6, BK194, HB⟩ := hcut
          cases kq with
          | zero => exact absurd HA.out (by simp [gimballaw30_LogExact.j2])
          | succ kj12 =>
           have H := HA.out
           clear HA
           simp only [gimballaw30_LogExact.j2] at H
           replace H := Option.bind_eq_some_iff.mp H
           obtain ⟨⟨t200, t201⟩, A230, H⟩ := H
           replace H : ((log_Pack.f kj12 t200 t201).bind fun bt205 => ((gimballaw30_num.f bt205.2).bind fun t209 => (if t209 = x5_12 then ((gimbalref0_EqWords.f kj12 bt205.1 x6_12).bind fun t210 => (if t210 = true then ((gimbalref0_EqEntry.f kj12 t200 t201 ((rd_T30 l0 x3_1).f0.f0) ((rd_T30 l0 x3_1).f0.f1)).bind fun t211 => (gimballaw30_LogExact.j3 kj12 l0 x3_1 (!t211) ((rd_T30 l0 x3_1).f0.f0) ((rd_T30 l0 x3_1).f0.f1) ((rd_T30 l0 x3_1).f1) ((rd_T30 l0 x3_1).f2) ((rd_T30 l0 x3_1).f3) ((rd_T30 l0 x3_1).f4) ((rd_T30 l0 x3_1).f5))) else (gimballaw30_LogExact.j3 kj12 l0 x3_1 true ((rd_T30 l0 x3_1).f0.f0) ((rd_T30 l0 x3_1).f0.f1) ((rd_T30 l0 x3_1).f1) ((rd_T30 l0 x3_1).f2) ((rd_T30 l0 x3_1).f3) ((rd_T30 l0 x3_1).f4) ((rd_T30 l0 x3_1).f5)))) else (gimballaw30_LogExact.j3 kj12 l0 x3_1 true ((rd_T30 l0 x3_1).f0.f0) ((rd_T30 l0 x3_1).f0.f1) ((rd_T30 l0 x3_1).f1) ((rd_T30 l0 x3_1).f2) ((rd_T30 l0 x3_1).f3) ((rd_T30 l0 x3_1).f4) ((rd_T30 l0 x3_1).f5))))) = some r := H
           have A23 := Aside0.mk A230
           clear A230
           replace H := Option.bind_eq_some_iff.mp H
           obtain ⟨⟨t205, t208⟩, A240, H⟩ := H
           replace H : ((gimballaw30_num.f t208).bind fun t209 => (if t209 = x5_12 then ((gimbalref0_EqWords.f kj12 t205 x6_12).bind fun t210 => (if t210 = true then ((gimbalref0_EqEntry.f kj12 t200 t201 ((rd_T30 l0 x3_1).f0.f0) ((rd_T30 l0 x3_1).f0.f1)).bind fun t211 => (gimballaw30_LogExact.j3 kj12 l0 x3_1 (!t211) ((rd_T30 l0 x3_1).f0.f0) ((rd_T30 l0 x3_1).f0.f1) ((rd_T30 l0 x3_1).f1) ((rd_T30 l0 x3_1).f2) ((rd_T30 l0 x3_1).f3) ((rd_T30 l0 x3_1).f4) ((rd_T30 l0 x3_1).f5))) else (gimballaw30_LogExact.j3 kj12 l0 x3_1 true ((rd_T30 l0 x3_1).f0.f0) ((rd_T30 l0 x3_1).f0.f1) ((rd_T30 l0 x3_1).f1) ((rd_T30 l0 x3_1).f2) ((rd_T30 l0 x3_1).f3) ((rd_T30 l0 x3_1).f4) ((rd_T30 l0 x3_1).f5)))) else (gimballaw30_LogExact.j3 kj12 l0 x3_1 true ((rd_T30 l0 x3_1).f0.f0) ((rd_T30 l0 x3_1).f0.f1) ((rd_T30 l0 x3_1).f1) ((rd_T30 l0 x3_1).f2) ((rd_T30 l0 x3_1).f3) ((rd_T30 l0 x3_1).f4) ((rd_T30 l0 x3_1).f5)))) = some r := H
           have A24 := Aside0.mk A240
           clear A240
           have HC25 := Aside0.mk H
           clear H
           obtain ⟨z26_0, z26_1, z26_2, z26_3, z26_4, z26_5, z26_6⟩ := Sq.c7 BK194.out
           obtain ⟨y26_0, y26_1, y26_2, y26_3, y26_4, y26_5, y26_6⟩ := Sq.f7 BK194.out
           go_upto_region 14 with (first | ((with_reducible refine gate_callee (f := 17) rfl ?_); refine goesL_ (some 46) rfl rfl Try.func17 (by kernel_rfl) rfl #[.agg #[.int .i64 ((rd_T30 l0 x3_1).f0.f0), .slice A193_1 ((rd_T30 l0 x3_1).f0.f1).length c193_1]] rfl Sq.m ?_; (with_reducible refine (gimbalref0_CopyEntry.calls kj12 ((rd_T30 l0 x3_1).f0.f0) _ _ ((rd_T30 l0 x3_1).f0.f1) t200 t201 _ ?side1 ?side2 A23.out).mono ?_); (case side1 => repeat (first | exact (Kd.C_below HR193_1.out HB.out) | (with_reducible refine Kd.C_alloc ?_ _) | (with_reducible refine Kd.C_drewN ?_ _) | (with_reducible refine Kd.C_drew ?_))); (case side2 => exact HC193_1.out); rintro e w27 ⟨v202, rfl, ho0, hb⟩; refine ⟨_, rfl, ?_⟩; have HO203 := Aside0.mk (Kd.R_lower ho0 (below_size (Sq.w HB.out))); replace HO_6 := Sq.sR HO_6 hb; replace BK194 := Sq.sb BK194 hb; replace HB := Sq.sw HB hb; ) | ((with_reducible refine gate_dst (N := 7) rfl ?_); refine box_event ?hg (N := 7) ?hd (cs := #[.int .i64 0, .slice none 0 0]) (t := 25) ?hr ?_; (case hd => rfl); (case hg => rfl); (case hr => first | (go_simp; done) | (go_simp; rfl)); intro gb204 hg w28 hbox hb; have BK204 := Aside0.mk hbox; have GW204 := Sq.ge hg HB; have GE204 := Sq.ge hg HB; obtain ⟨NB194_204, NB204_194⟩ := Sq.np hg BK194; replace HO_6 := Sq.sR HO_6 hb; replace HO203 := Sq.sR HO203 hb; replace BK194 := Sq.sb BK194 hb; replace HB := Sq.sw HB hb; clear hb hbox hg; have b29 := NB204_194.out; have d29 := NB194_204.out; obtain ⟨z30_0, z30_1⟩ := Sq.c2 BK204.out; obtain ⟨y30_0, y30_1⟩ := Sq.f2 BK204.out; obtain ⟨Ao31, co31, eo31⟩ := Kd.R_slice HO203.out; subst eo31) | ((with_reducible refine gate_callee (f := 8) rfl ?_); refine goesL_ (some 49) rfl rfl Try.func8 (by kernel_rfl) rfl #[.agg #[.int .i64 t200, .slice Ao31 t201.length co31]] rfl Sq.m ?_; (with_reducible refine (log_Pack.calls kj12 t200 _ _ t201 t205 t208 _ ?side1 ?side2 A24.out).mono ?_); (case side1 => refine (Kd.R_reads' (e := 5) (base := w.heap.size) (ok := fun k_ => True) (n := t201.length) (c := co31) ?_).2.2; exact (Sq.xR HO203.out BK204.out)); (case side2 => exact (Kd.R_reads' HO203.out).2.1); rintro e w32 ⟨v206, rfl, ho0, hb⟩; refine ⟨_, rfl, ?_⟩; have HO207 := Aside0.mk (Kd.R_lower (Kd.R_new' ho0 (Kd.R_lt (Sq.xR HO_6.out BK204.out))) (below_size (Sq.w HB.out))); replace HO_6 := Aside0.mk (Kd.R_elder' (Sq.xR HO_6.out BK204.out) (Kd.R_base ho0) hb); replace HO203 := Sq.yR HO203 BK204 hb; replace BK194 := Sq.sF BK194 hb; replace BK204 := Aside0.mk (blk_below (g := gb204) (o := .cells #[.int .i64 t200, .slice Ao31 t201.length co31] 25 (0, 0)) (Sq.B BK204.out) hb); replace HB := Sq.sw HB hb; ))
           (try simp only [Act.put, List.setIfInBounds_toArray, List.set_cons_zero, List.set_cons_succ])
           refine Cu.wp_cut (Cu.f :: Cu.f :: Cu.f :: Cu.f :: Cu.f :: Cu.f :: Cu.f :: Cu.f :: Cu.f :: Cu.f :: Cu.f :: Cu.f :: Cu.f :: Cu.f :: Cu.f :: Cu.f :: Cu.f :: Cu.f :: Cu.f :: Cu.f :: Cu.f :: Cu.f :: Cu.t :: Cu.t :: Cu.t :: Cu.t :: Cu.t :: Cu.t :: Cu.t :: Cu.t :: Cu.t :: Cu.t :: Cu.t :: Cu.t :: Cu.t :: Cu.t :: Cu.t :: Cu.t :: Cu.t :: Cu.t :: Cu.t :: Cu.t :: Cu.t :: Cu.t :: Cu.t :: Cu.t :: Cu.t :: Cu.t :: Cu.t :: Cu.t :: Cu.t :: Cu.t :: Cu.t :: Cu.t :: Cu.t :: Cu.t :: Cu.t :: Cu.t :: Cu.t :: Cu.t :: Cu.t :: Cu.t :: Cu.t :: Cu.t :: Cu.t :: Cu.t :: Cu.t :: Cu.t :: Cu.t :: Cu.t :: Cu.t :: Cu.t :: Cu.t :: Cu.t :: Cu.t :: Cu.t :: Cu.t :: Cu.t :: Cu.t :: Cu.t :: Cu.t :: Cu.t :: Cu.t :: Cu.t :: Cu.t :: Cu.t :: Cu.t :: Cu.t :: Cu.t :: Cu.t :: Cu.t :: Cu.t :: Cu.t :: Cu.t :: Cu.t :: Cu.t :: Cu.t :: Cu.t :: Cu.t :: Cu.t :: Cu.t :: Cu.t :: Cu.t :: Cu.t :: Cu.t :: Cu.t :: Cu.t :: Cu.t :: Cu.t :: Cu.t :: Cu.t :: Cu.t :: Cu.t :: Cu.t :: Cu.t :: Cu.t :: Cu.t :: Cu.t :: Cu.t :: Cu.t :: Cu.t :: Cu.t :: Cu.t :: Cu.t :: Cu.t :: Cu.t :: Cu.t :: Cu.t :: Cu.t :: Cu.t :: Cu.t :: Cu.t :: Cu.t :: Cu.t :: Cu.t :: Cu.t :: Cu.t :: Cu.t :: Cu.t :: Cu.t :: Cu.t :: Cu.t :: Cu.t :: Cu.t :: Cu.t :: Cu.t :: Cu.t :: Cu.t :: Cu.t :: Cu.t :: Cu.t :: Cu.t :: Cu.t :: Cu.t :: Cu.t :: Cu.t :: Cu.t :: Cu.t :: Cu.t :: Cu.t :: Cu.t :: Cu.t :: Cu.t :: Cu.t :: Cu.f :: []) 142 (fun us_ wc => ∃ (kq : Nat) (x68_24 : Bool), (Cu.nth us_ 46) = .bool x68_24 ∧ Aside0 (gimballaw30_LogExact.j3 kq l0 x3_1 x68_24 ((rd_T30 l0 x3_1).f0.f0) ((rd_T30 l0 x3_1).f0.f1) ((rd_T30 l0 x3_1).f1) ((rd_T30 l0 x3_1).f2) ((rd_T30 l0 x3_1).f3) ((rd_T30 l0 x3_1).f4) ((rd_T30 l0 x3_1).f5) = some r) ∧ Aside0 (kq ≤ kj12) ∧ Aside0 (Kd.R (Kd.int .u8) 5 wc w.heap.size (fun _ => True) (.slice Ao31 t201.length co31) t201) ∧ Aside0 (wc.heap[gb194]? = some (.cells #[.int .i64 ((rd_T30 l0 x3_1).f0.f0), (.slice A193_1 ((rd_T30 l0 x3_1).f0.f1).length c193_1), .int .i64 ((rd_T30 l0 x3_1).f1), .int .u32 ((rd_T30 l0 x3_1).f2), (.slice A193_4 ((rd_T30 l0 x3_1).f3).length c193_4), (.slice A193_5 ((rd_T30 l0 x3_1).f4).length c193_5), .int .i64 ((rd_T30 l0 x3_1).f5)] 30 (0, 0))) ∧ Aside0 (wc.heap[gb204]? = some (.cells #[.int .i64 t200, (.slice Ao31 t201.length co31)] 25 (0, 0))) ∧ Aside0 (Below w.heap.size w wc)) ?_ ?_
           ·
            intro _ _ _ _
            have H := HC25.out
            clear HC25
            replace H := Option.bind_eq_some_iff.mp H
            obtain ⟨t209, A330, H⟩ := H
            replace H : (if t209 = x5_12 then ((gimbalref0_EqWords.f kj12 t205 x6_12).bind fun t210 => (if t210 = true then ((gimbalref0_EqEntry.f kj12 t200 t201 ((rd_T30 l0 x3_1).f0.f0) ((rd_T30 l0 x3_1).f0.f1)).bind fun t211 => (gimballaw30_LogExact.j3 kj12 l0 x3_1 (!t211) ((rd_T30 l0 x3_1).f0.f0) ((rd_T30 l0 x3_1).f0.f1) ((rd_T30 l0 x3_1).f1) ((rd_T30 l0 x3_1).f2) ((rd_T30 l0 x3_1).f3) ((rd_T30 l0 x3_1).f4) ((rd_T30 l0 x3_1).f5))) else (gimballaw30_LogExact.j3 kj12 l0 x3_1 true ((rd_T30 l0 x3_1).f0.f0) ((rd_T30 l0 x3_1).f0.f1) ((rd_T30 l0 x3_1).f1) ((rd_T30 l0 x3_1).f2) ((rd_T30 l0 x3_1).f3) ((rd_T30 l0 x3_1).f4) ((rd_T30 l0 x3_1).f5)))) else (gimballaw30_LogExact.j3 kj12 l0 x3_1 true ((rd_T30 l0 x3_1).f0.f0) ((rd_T30 l0 x3_1).f0.f1) ((rd_T30 l0 x3_1).f1) ((rd_T30 l0 x3_1).f2) ((rd_T30 l0 x3_1).f3) ((rd_T30 l0 x3_1).f4) ((rd_T30 l0 x3_1).f5))) = some r := H
            have A33 := Aside0.mk A330
            clear A330
            by_cases c34 : t209 = x5_12
            ·rw [if_pos c34] at H
             have c34b0 : (t209 == x5_12) = true := beq_iff_eq.mpr c34
             have c34b1 : (t209 != x5_12) = false := bne_eq_false_iff_eq.mpr c34
             clear c34
             (first | rw [c34b0] | (simp only [i64_w, i32_w]; rw [c34b0]) | skip)
             replace H := Option.bind_eq_some_iff.mp H
             obtain ⟨t210, A350, H⟩ := H
             replace H : (if t210 = true then ((gimbalref0_EqEntry.f kj12 t200 t201 ((rd_T30 l0 x3_1).f0.f0) ((rd_T30 l0 x3_1).f0.f1)).bind fun t211 => (gimballaw30_LogExact.j3 kj12 l0 x3_1 (!t211) ((rd_T30 l0 x3_1).f0.f0) ((rd_T30 l0 x3_1).f0.f1) ((rd_T30 l0 x3_1).f1) ((rd_T30 l0 x3_1).f2) ((rd_T30 l0 x3_1).f3) ((rd_T30 l0 x3_1).f4) ((rd_T30 l0 x3_1).f5))) else (gimballaw30_LogExact.j3 kj12 l0 x3_1 true ((rd_T30 l0 x3_1).f0.f0) ((rd_T30 l0 x3_1).f0.f1) ((rd_T30 l0 x3_1).f1) ((rd_T30 l0 x3_1).f2) ((rd_T30 l0 x3_1).f3) ((rd_T30 l0 x3_1).f4) ((rd_T30 l0 x3_1).f5))) = some r := H
             have A35 := Aside0.mk A350
             clear A350
             by_cases c36 : t210 = true
             ·subst c36
              have H1 : ((gimbalref0_EqEntry.f kj12 t200 t201 ((rd_T30 l0 x3_1).f0.f0) ((rd_T30 l0 x3_1).f0.f1)).bind fun t211 => (gimballaw30_LogExact.j3 kj12 l0 x3_1 (!t211) ((rd_T30 l0 x3_1).f0.f0) ((rd_T30 l0 x3_1).f0.f1) ((rd_T30 l0 x3_1).f1) ((rd_T30 l0 x3_1).f2) ((rd_T30 l0 x3_1).f3) ((rd_T30 l0 x3_1).f4) ((rd_T30 l0 x3_1).f5))) = some r := by rw [if_pos rfl] at H; exact H
              clear H
              have H := H1
              clear H1
              replace H := Option.bind_eq_some_iff.mp H
              obtain ⟨t211, A370, H⟩ := H
              replace H : (gimballaw30_LogExact.j3 kj12 l0 x3_1 (!t211) ((rd_T30 l0 x3_1).f0.f0) ((rd_T30 l0 x3_1).f0.f1) ((rd_T30 l0 x3_1).f1) ((rd_T30 l0 x3_1).f2) ((rd_T30 l0 x3_1).f3) ((rd_T30 l0 x3_1).f4) ((rd_T30 l0 x3_1).f5)) = some r := H
              have A37 := Aside0.mk A370
              clear A370
              have H' := Aside0.mk H
              clear H
              go_wp2_with (first | ((with_reducible refine gate_callee (f := 9) rfl ?_); refine goesL_ (some 53) rfl rfl Try.func9 (by kernel_rfl) rfl #[.int .i64 t208] rfl Sq.m ?_; (with_reducible refine (gimballaw30_num.calls t208 t209 _ A33.out).mono ?_); rintro e w' ⟨rfl, ⟨nd, rfl⟩⟩; refine ⟨_, rfl, ?_⟩; obtain ⟨Ao38, co38, eo38⟩ := Kd.R_slice HO207.out; subst eo38; obtain ⟨Ao39, co39, eo39⟩ := Kd.R_slice HO_6.out; subst eo39) | (go_at_call 18; (with_reducible refine (gimbalref0_EqWords.calls kj12 _ _ t205 _ _ x6_12 true _ ?side1 ?side2 ?side3 ?side4 A35.out).mono ?_); (case side1 => repeat (first | exact (Kd.R_reads' HO207.out).2.2 | (with_reducible refine Kd.C_alloc ?_ _) | (with_reducible refine Kd.C_drewN ?_ _) | (with_reducible refine Kd.C_drew ?_))); (case side2 => exact (Kd.R_reads' HO207.out).2.1); (case side3 => repeat (first | exact (Kd.R_reads' HO_6.out).2.2 | (with_reducible refine Kd.C_alloc ?_ _) | (with_reducible refine Kd.C_drewN ?_ _) | (with_reducible refine Kd.C_drew ?_))); (case side4 => exact (Kd.R_reads' HO_6.out).2.1); rintro e w' ⟨rfl, ⟨nd, rfl⟩⟩; have b40 := NB204_194.out; have d40 := NB194_204.out; obtain ⟨z41_0, z41_1⟩ := Sq.c2 BK204.out; obtain ⟨y41_0, y41_1⟩ := Sq.f2 BK204.out; obtain ⟨z42_0, z42_1, z42_2, z42_3, z42_4, z42_5, z42_6⟩ := Sq.c7 BK194.out; obtain ⟨y42_0, y42_1, y42_2, y42_3, y42_4, y42_5, y42_6⟩ := Sq.f7 BK194.out) | (go_at_call 11; (with_reducible refine (gimbalref0_EqEntry.calls kj12 t200 _ _ t201 ((rd_T30 l0 x3_1).f0.f0) _ _ ((rd_T30 l0 x3_1).f0.f1) t211 _ ?side1 ?side2 ?side3 ?side4 A37.out).mono ?_); (case side1 => repeat (first | exact (Kd.R_reads' HO203.out).2.2 | (with_reducible refine Kd.C_alloc ?_ _) | (with_reducible refine Kd.C_drewN ?_ _) | (with_reducible refine Kd.C_drew ?_))); (case side2 => exact (Kd.R_reads' HO203.out).2.1); (case side3 => repeat (first | exact (Kd.C_below HR193_1.out (Sq.w HB.out)) | (with_reducible refine Kd.C_alloc ?_ _) | (with_reducible refine Kd.C_drewN ?_ _) | (with_reducible refine Kd.C_drew ?_))); (case side4 => exact HC193_1.out); rintro e w43 ⟨rfl, hb⟩; replace HO_6 := Sq.sR HO_6 hb; replace HO203 := Sq.sR HO203 hb; replace HO207 := Sq.sR HO207 hb; replace BK194 := Sq.sb BK194 hb; replace BK204 := Sq.sb BK204 hb; replace HB := Sq.sw HB hb; (try clear hb); (try clear hb2); (try clear hk); (try clear hi)))
              refine Cu.meet (by assumption) ?_ (by kernel_rfl) (by kernel_rfl)
              try dsimp only [Cu.pick, Cu.nth]
              exact ⟨_, (!t211), Sq.e, H', ⟨by have := HK1.out; have := HJ1.out; have := HJ12.out; first | omega | exact Nat.le_refl _⟩, ⟨Sq.rR HO203.out⟩, ⟨Sq.b BK194.out⟩, ⟨Sq.b BK204.out⟩, ⟨Sq.w HB.out⟩⟩
             ·replace c36 := Bool.eq_false_iff.mpr c36
              subst c36
              have H1 : (gimballaw30_LogExact.j3 kj12 l0 x3_1 true ((rd_T30 l0 x3_1).f0.f0) ((rd_T30 l0 x3_1).f0.f1) ((rd_T30 l0 x3_1).f1) ((rd_T30 l0 x3_1).f2) ((rd_T30 l0 x3_1).f3) ((rd_T30 l0 x3_1).f4) ((rd_T30 l0 x3_1).f5)) = some r := by rw [if_neg (show ¬ (false = true) by decide)] at H; exact H
              clear H
              have H := H1
              clear H1
              have H' := Aside0.mk H
              clear H
              go_wp2_with (first | ((with_reducible refine gate_callee (f := 9) rfl ?_); refine goesL_ (some 53) rfl rfl Try.func9 (by kernel_rfl) rfl #[.int .i64 t208] rfl Sq.m ?_; (with_reducible refine (gimballaw30_num.calls t208 t209 _ A33.out).mono ?_); rintro e w' ⟨rfl, ⟨nd, rfl⟩⟩; refine ⟨_, rfl, ?_⟩; obtain ⟨Ao44, co44, eo44⟩ := Kd.R_slice HO207.out; subst eo44; obtain ⟨Ao45, co45, eo45⟩ := Kd.R_slice HO_6.out; subst eo45) | (go_at_call 18; (with_reducible refine (gimbalref0_EqWords.calls kj12 _ _ t205 _ _ x6_12 false _ ?side1 ?side2 ?side3 ?side4 A35.out).mono ?_); (case side1 => repeat (first | exact (Kd.R_reads' HO207.out).2.2 | (with_reducible refine Kd.C_alloc ?_ _) | (with_reducible refine Kd.C_drewN ?_ _) | (with_reducible refine Kd.C_drew ?_))); (case side2 => exact (Kd.R_reads' HO207.out).2.1); (case side3 => repeat (first | exact (Kd.R_reads' HO_6.out).2.2 | (with_reducible refine Kd.C_alloc ?_ _) | (with_reducible refine Kd.C_drewN ?_ _) | (with_reducible refine Kd.C_drew ?_))); (case side4 => exact (Kd.R_reads' HO_6.out).2.1); rintro e w' ⟨rfl, ⟨nd, rfl⟩⟩))
              refine Cu.meet (by assumption) ?_ (by kernel_rfl) (by kernel_rfl)
              try dsimp only [Cu.pick, Cu.nth]
              exact ⟨_, (true), Sq.e, H', ⟨by have := HK1.out; have := HJ1.out; have := HJ12.out; first | omega | exact Nat.le_refl _⟩, ⟨Sq.rR HO203.out⟩, ⟨Sq.b BK194.out⟩, ⟨Sq.b BK204.out⟩, ⟨Sq.w HB.out⟩⟩
            ·rw [if_neg c34] at H
             have c34b0 : (t209 == x5_12) = false := beq_eq_false_iff_ne.mpr c34
             have c34b1 : (t209 != x5_12) = true := bne_iff_ne.mpr c34
             (first | rw [c34b0] | (simp only [i64_w, i32_w]; rw [c34b0]) | skip)
             have H' := Aside0.mk H
             clear H
             go_wp2_with (first | ((with_reducible refine gate_callee (f := 9) rfl ?_); refine goesL_ (some 53) rfl rfl Try.func9 (by kernel_rfl) rfl #[.int .i64 t208] rfl Sq.m ?_; (with_reducible refine (gimballaw30_num.calls t208 t209 _ A33.out).mono ?_); rintro e w' ⟨rfl, ⟨nd, rfl⟩⟩; refine ⟨_, rfl, ?_⟩))
             refine Cu.meet (by assumption) ?_ (by kernel_rfl) (by kernel_rfl)
             try dsimp only [Cu.pick, Cu.nth]
             exact ⟨_, (true), Sq.e, H', ⟨by have := HK1.out; have := HJ1.out; have := HJ12.out; first | omega | exact Nat.le_refl _⟩, ⟨Sq.rR HO203.out⟩, ⟨Sq.b BK194.out⟩, ⟨Sq.b BK204.out⟩, ⟨Sq.w HB.out⟩⟩
           ·
            intro wc u22 u23 u24 u25 u26 u27 u28 u29 u30 u31 u32 u33 u34 u35 u36 u37 u38 u39 u40 u41 u42 u43 u44 u45 u46 u47 u48 u49 u50 u51 u52 u53 u54 u55 u56 u57 u58 u59 u60 u61 u62 u63 u64 u65 u66 u67 u68 u69 u70 u71 u72 u73 u74 u75 u76 u77 u78 u79 u80 u81 u82 u83 u84 u85 u86 u87 u88 u89 u90 u91 u92 u93 u94 u95 u96 u97 u98 u99 u100 u101 u102 u103 u104 u105 u106 u107 u108 u109 u110 u111 u112 u113 u114 u115 u116 u117 u118 u119 u120 u121 u122 u123 u124 u125 u126 u127 u128 u129 u130 u131 u132 u133 u134 u135 u136 u137 u138 u139 u140 u141 u142 u143 u144 u145 u146 u147 u148 u149 u150 u151 u152 u153 u154 u155 u156 u157 u158 u159 u160 u161 u162 u163
            try dsimp only [Cu.over, Cu.nth]
            intro hcut
            clear HC25; (try clear z26_0 z26_1 z26_2 z26_3 z26_4 z26_5 z26_6); (try clear z30_0 z30_1); (try clear y26_0 y26_1 y26_2 y26_3 y26_4 y26_5 y26_6); (try clear y30_0 y30_1)
            obtain ⟨kq, x68_24, rfl, HA, HJ24, HO_205001, BK194, BK204, HB⟩ := hcut
            cases kq with
            | zero => exact absurd HA.out (by simp [gimballaw30_LogExact.j3])
            | succ kj24 =>
             have H := HA.out
             clear HA
             simp only [gimballaw30_LogExact.j3] at H
             by_cases c46 : x68_24 = true
             ·subst c46
              have H1 : (some false) = some r := by rw [if_pos rfl] at H; exact H
              clear H
              have H := H1
              clear H1
              exact absurd ((Option.some.inj H).trans hrt_.out) (by simp)
             ·replace c46 := Bool.eq_false_iff.mpr c46
              subst c46
              have H1 : ((log_Head.f ((rd_T30 l0 x3_1).f1)).bind fun bt212 => (if ((rd_T30 l0 x3_1).f1) ≥ 0 then (gimballaw30_LogExact.j4 kj24 l0 x3_1 bt212.1 bt212.2 (decide (((rd_T30 l0 x3_1).f1) < 16777216)) ((rd_T30 l0 x3_1).f0.f0) ((rd_T30 l0 x3_1).f0.f1) ((rd_T30 l0 x3_1).f1) ((rd_T30 l0 x3_1).f2) ((rd_T30 l0 x3_1).f3) ((rd_T30 l0 x3_1).f4) ((rd_T30 l0 x3_1).f5)) else (gimballaw30_LogExact.j4 kj24 l0 x3_1 bt212.1 bt212.2 false ((rd_T30 l0 x3_1).f0.f0) ((rd_T30 l0 x3_1).f0.f1) ((rd_T30 l0 x3_1).f1) ((rd_T30 l0 x3_1).f2) ((rd_T30 l0 x3_1).f3) ((rd_T30 l0 x3_1).f4) ((rd_T30 l0 x3_1).f5)))) = some r := by rw [if_neg (show ¬ (false = true) by decide)] at H; exact H
              clear H
              have H := H1
              clear H1
              replace H := Option.bind_eq_some_iff.mp H
              obtain ⟨⟨t212, t213⟩, A470, H⟩ := H
              replace H : (if ((rd_T30 l0 x3_1).f1) ≥ 0 then (gimballaw30_LogExact.j4 kj24 l0 x3_1 t212 t213 (decide (((rd_T30 l0 x3_1).f1) < 16777216)) ((rd_T30 l0 x3_1).f0.f0) ((rd_T30 l0 x3_1).f0.f1) ((rd_T30 l0 x3_1).f1) ((rd_T30 l0 x3_1).f2) ((rd_T30 l0 x3_1).f3) ((rd_T30 l0 x3_1).f4) ((rd_T30 l0 x3_1).f5)) else (gimballaw30_LogExact.j4 kj24 l0 x3_1 t212 t213 false ((rd_T30 l0 x3_1).f0.f0) ((rd_T30 l0 x3_1).f0.f1) ((rd_T30 l0 x3_1).f1) ((rd_T30 l0 x3_1).f2) ((rd_T30 l0 x3_1).f3) ((rd_T30 l0 x3_1).f4) ((rd_T30 l0 x3_1).f5))) = some r := H
              have A47 := Aside0.mk A470
              clear A470
              have HC48 := Aside0.mk H
              clear H; have b49 := NB194_204.out; have d49 := NB204_194.out
              obtain ⟨z50_0, z50_1, z50_2, z50_3, z50_4, z50_5, z50_6⟩ := Sq.c7 BK194.out
              obtain ⟨y50_0, y50_1, y50_2, y50_3, y50_4, y50_5, y50_6⟩ := Sq.f7 BK194.out
              go_upto_region 17 with (first | ((with_reducible refine gate_callee (f := 13) rfl ?_); refine goesL_ (some 72) rfl rfl Try.func13 (by kernel_rfl) rfl #[.int .i64 ((rd_T30 l0 x3_1).f1)] rfl Sq.m ?_; (with_reducible refine (log_Head.calls ((rd_T30 l0 x3_1).f1) t212 t213 _ A47.out).mono ?_); rintro e w' ⟨rfl, ⟨nd, rfl⟩⟩; refine ⟨_, rfl, ?_⟩))
              (try simp only [Act.put, List.setIfInBounds_toArray, List.set_cons_zero, List.set_cons_succ])
              refine Cu.wp_cut (Cu.f :: Cu.f :: Cu.f :: Cu.f :: Cu.f :: Cu.f :: Cu.f :: Cu.f :: Cu.f :: Cu.f :: Cu.f :: Cu.f :: Cu.f :: Cu.f :: Cu.f :: Cu.f :: Cu.f :: Cu.f :: Cu.f :: Cu.f :: Cu.f :: Cu.f :: Cu.t :: Cu.t :: Cu.t :: Cu.t :: Cu.t :: Cu.t :: Cu.t :: Cu.t :: Cu.t :: Cu.t :: Cu.t :: Cu.t :: Cu.t :: Cu.t :: Cu.t :: Cu.t :: Cu.t :: Cu.t :: Cu.t :: Cu.t :: Cu.t :: Cu.t :: Cu.t :: Cu.t :: Cu.t :: Cu.t :: Cu.t :: Cu.t :: Cu.t :: Cu.t :: Cu.t :: Cu.t :: Cu.t :: Cu.t :: Cu.t :: Cu.t :: Cu.t :: Cu.t :: Cu.t :: Cu.t :: Cu.t :: Cu.t :: Cu.t :: Cu.t :: Cu.t :: Cu.t :: Cu.t :: Cu.t :: Cu.t :: Cu.t :: Cu.t :: Cu.t :: Cu.t :: Cu.t :: Cu.t :: Cu.t :: Cu.t :: Cu.t :: Cu.t :: Cu.t :: Cu.t :: Cu.t :: Cu.t :: Cu.t :: Cu.t :: Cu.t :: Cu.t :: Cu.t :: Cu.t :: Cu.t :: Cu.t :: Cu.t :: Cu.t :: Cu.t :: Cu.t :: Cu.t :: Cu.t :: Cu.t :: Cu.t :: Cu.t :: Cu.t :: Cu.t :: Cu.t :: Cu.t :: Cu.t :: Cu.t :: Cu.t :: Cu.t :: Cu.t :: Cu.t :: Cu.t :: Cu.t :: Cu.t :: Cu.t :: Cu.t :: Cu.t :: Cu.t :: Cu.t :: Cu.t :: Cu.t :: Cu.t :: Cu.t :: Cu.t :: Cu.t :: Cu.t :: Cu.t :: Cu.t :: Cu.t :: Cu.t :: Cu.t :: Cu.t :: Cu.t :: Cu.t :: Cu.t :: Cu.t :: Cu.t :: Cu.t :: Cu.t :: Cu.t :: Cu.t :: Cu.t :: Cu.t :: Cu.t :: Cu.t :: Cu.t :: Cu.t :: Cu.t :: Cu.t :: Cu.t :: Cu.t :: Cu.t :: Cu.t :: Cu.t :: Cu.t :: Cu.t :: Cu.t :: Cu.t :: Cu.t :: Cu.t :: Cu.t :: Cu.t :: Cu.t :: Cu.f :: []) 142 (fun us_ wc => ∃ (kq : Nat) (x82_47 : Bool), (Cu.nth us_ 60) = .bool x82_47 ∧ Aside0 (gimballaw30_LogExact.j4 kq l0 x3_1 t212 t213 x82_47 ((rd_T30 l0 x3_1).f0.f0) ((rd_T30 l0 x3_1).f0.f1) ((rd_T30 l0 x3_1).f1) ((rd_T30 l0 x3_1).f2) ((rd_T30 l0 x3_1).f3) ((rd_T30 l0 x3_1).f4) ((rd_T30 l0 x3_1).f5) = some r) ∧ Aside0 (kq ≤ kj24) ∧ Aside0 (Kd.R (Kd.int .u8) 5 wc w.heap.size (fun _ => True) (.slice Ao31 t201.length co31) t201) ∧ Aside0 (wc.heap[gb194]? = some (.cells #[.int .i64 ((rd_T30 l0 x3_1).f0.f0), (.slice A193_1 ((rd_T30 l0 x3_1).f0.f1).length c193_1), .int .i64 ((rd_T30 l0 x3_1).f1), .int .u32 ((rd_T30 l0 x3_1).f2), (.slice A193_4 ((rd_T30 l0 x3_1).f3).length c193_4), (.slice A193_5 ((rd_T30 l0 x3_1).f4).length c193_5), .int .i64 ((rd_T30 l0 x3_1).f5)] 30 (0, 0))) ∧ Aside0 (wc.heap[gb204]? = some (.cells #[.int .i64 t200, (.slice Ao31 t201.length co31)] 25 (0, 0))) ∧ Aside0 (Below w.heap.size w wc)) ?_ ?_
              ·
               intro _ _ _ _
               have H := HC48.out
               clear HC48
               by_cases c51 : ((rd_T30 l0 x3_1).f1) ≥ 0
               ·rw [if_pos c51] at H
                have c51b0 : decide (0 ≤ ((rd_T30 l0 x3_1).f1)) = true := decide_eq_true c51
                clear c51
                (first | rw [c51b0] | (simp only [i64_w, i32_w]; rw [c51b0]) | skip)
                have H' := Aside0.mk H
                clear H; have b52 := NB194_204.out; have d52 := NB204_194.out
                obtain ⟨z53_0, z53_1, z53_2, z53_3, z53_4, z53_5, z53_6⟩ := Sq.c7 BK194.out
                obtain ⟨y53_0, y53_1, y53_2, y53_3, y53_4, y53_5, y53_6⟩ := Sq.f7 BK194.out
                go_wp2
                refine Cu.meet (by assumption) ?_ (by kernel_rfl) (by kernel_rfl)
                try dsimp only [Cu.pick, Cu.nth]
                exact ⟨_, (decide (((rd_T30 l0 x3_1).f1) < 16777216)), Sq.e, H', ⟨by have := HK1.out; have := HJ1.out; have := HJ12.out; have := HJ24.out; first | omega | exact Nat.le_refl _⟩, ⟨Sq.rR HO_205001.out⟩, ⟨Sq.b BK194.out⟩, ⟨Sq.b BK204.out⟩, ⟨Sq.w HB.out⟩⟩
               ·rw [if_neg c51] at H
                have c51b0 : decide (0 ≤ ((rd_T30 l0 x3_1).f1)) = false := decide_eq_false c51
                clear c51
                (first | rw [c51b0] | (simp only [i64_w, i32_w]; rw [c51b0]) | skip)
                have H' := Aside0.mk H
                clear H; have b54 := NB194_204.out; have d54 := NB204_194.out
                obtain ⟨z55_0, z55_1, z55_2, z55_3, z55_4, z55_5, z55_6⟩ := Sq.c7 BK194.out
                obtain ⟨y55_0, y55_1, y55_2, y55_3, y55_4, y55_5, y55_6⟩ := Sq.f7 BK194.out
                go_wp2
                refine Cu.meet (by assumption) ?_ (by kernel_rfl) (by kernel_rfl)
                try dsimp only [Cu.pick, Cu.nth]
                exact ⟨_, (false), Sq.e, H', ⟨by have := HK1.out; have := HJ1.out; have := HJ12.out; have := HJ24.out; first | omega | exact Nat.le_refl _⟩, ⟨Sq.rR HO_205001.out⟩, ⟨Sq.b BK194.out⟩, ⟨Sq.b BK204.out⟩, ⟨Sq.w HB.out⟩⟩
              ·
               intro wc u22 u23 u24 u25 u26 u27 u28 u29 u30 u31 u32 u33 u34 u35 u36 u37 u38 u39 u40 u41 u42 u43 u44 u45 u46 u47 u48 u49 u50 u51 u52 u53 u54 u55 u56 u57 u58 u59 u60 u61 u62 u63 u64 u65 u66 u67 u68 u69 u70 u71 u72 u73 u74 u75 u76 u77 u78 u79 u80 u81 u82 u83 u84 u85 u86 u87 u88 u89 u90 u91 u92 u93 u94 u95 u96 u97 u98 u99 u100 u101 u102 u103 u104 u105 u106 u107 u108 u109 u110 u111 u112 u113 u114 u115 u116 u117 u118 u119 u120 u121 u122 u123 u124 u125 u126 u127 u128 u129 u130 u131 u132 u133 u134 u135 u136 u137 u138 u139 u140 u141 u142 u143 u144 u145 u146 u147 u148 u149 u150 u151 u152 u153 u154 u155 u156 u157 u158 u159 u160 u161 u162 u163
               try dsimp only [Cu.over, Cu.nth]
               intro hcut
               clear HC48; (try clear c46); (try clear z50_0 z50_1 z50_2 z50_3 z50_4 z50_5 z50_6); (try clear y50_0 y50_1 y50_2 y50_3 y50_4 y50_5 y50_6)
               obtain ⟨kq, x82_47, rfl, HA, HJ47, HO_205001, BK194, BK204, HB⟩ := hcut
               cases kq with
               | zero => exact absurd HA.out (by simp [gimballaw30_LogExact.j4])
               | succ kj47 =>
                have H := HA.out
                clear HA
                simp only [gimballaw30_LogExact.j4] at H
                have HC56 := Aside0.mk H
                clear H
                go_upto_if 82 with (fail)
                refine Cu.wp_cut (Cu.f :: Cu.f :: Cu.t :: Cu.f :: Cu.f :: Cu.f :: Cu.f :: Cu.f :: Cu.f :: Cu.f :: Cu.f :: Cu.f :: Cu.f :: Cu.f :: Cu.f :: Cu.f :: Cu.f :: Cu.f :: Cu.f :: Cu.f :: Cu.f :: Cu.f :: Cu.t :: Cu.t :: Cu.t :: Cu.t :: Cu.t :: Cu.t :: Cu.t :: Cu.t :: Cu.t :: Cu.t :: Cu.t :: Cu.t :: Cu.t :: Cu.t :: Cu.t :: Cu.t :: Cu.t :: Cu.t :: Cu.t :: Cu.t :: Cu.t :: Cu.t :: Cu.t :: Cu.t :: Cu.t :: Cu.t :: Cu.t :: Cu.t :: Cu.t :: Cu.t :: Cu.t :: Cu.t :: Cu.t :: Cu.t :: Cu.t :: Cu.t :: Cu.t :: Cu.t :: Cu.t :: Cu.t :: Cu.t :: Cu.t :: Cu.t :: Cu.t :: Cu.t :: Cu.t :: Cu.t :: Cu.t :: Cu.t :: Cu.t :: Cu.t :: Cu.t :: Cu.t :: Cu.t :: Cu.t :: Cu.t :: Cu.t :: Cu.t :: Cu.t :: Cu.t :: Cu.t :: Cu.t :: Cu.t :: Cu.t :: Cu.t :: Cu.t :: Cu.t :: Cu.t :: Cu.t :: Cu.t :: Cu.t :: Cu.t :: Cu.t :: Cu.t :: Cu.t :: Cu.t :: Cu.t :: Cu.t :: Cu.t :: Cu.t :: Cu.t :: Cu.t :: Cu.t :: Cu.t :: Cu.t :: Cu.t :: Cu.t :: Cu.t :: Cu.t :: Cu.t :: Cu.t :: Cu.t :: Cu.t :: Cu.t :: Cu.t :: Cu.t :: Cu.t :: Cu.t :: Cu.t :: Cu.t :: Cu.t :: Cu.t :: Cu.t :: Cu.t :: Cu.t :: Cu.t :: Cu.t :: Cu.t :: Cu.t :: Cu.t :: Cu.t :: Cu.t :: Cu.t :: Cu.t :: Cu.t :: Cu.t :: Cu.t :: Cu.t :: Cu.t :: Cu.t :: Cu.t :: Cu.t :: Cu.t :: Cu.t :: Cu.t :: Cu.t :: Cu.t :: Cu.t :: Cu.t :: Cu.t :: Cu.t :: Cu.t :: Cu.t :: Cu.t :: Cu.t :: Cu.t :: Cu.t :: Cu.t :: Cu.t :: Cu.t :: Cu.t :: Cu.t :: Cu.f :: []) 143 (fun _ wc => ∃ (kq : Nat), Aside0 (gimballaw30_LogExact.j5 kq l0 x3_1 ((rd_T30 l0 x3_1).f0.f0) ((rd_T30 l0 x3_1).f0.f1) ((rd_T30 l0 x3_1).f1) ((rd_T30 l0 x3_1).f2) ((rd_T30 l0 x3_1).f3) ((rd_T30 l0 x3_1).f4) ((rd_T30 l0 x3_1).f5) = some r) ∧ Aside0 (kq ≤ kj47) ∧ Aside0 (Kd.R (Kd.int .u8) 5 wc w.heap.size (fun _ => True) (.slice Ao31 t201.length co31) t201) ∧ Aside0 (wc.heap[gb194]? = some (.cells #[.int .i64 ((rd_T30 l0 x3_1).f0.f0), (.slice A193_1 ((rd_T30 l0 x3_1).f0.f1).length c193_1), .int .i64 ((rd_T30 l0 x3_1).f1), .int .u32 ((rd_T30 l0 x3_1).f2), (.slice A193_4 ((rd_T30 l0 x3_1).f3).length c193_4), (.slice A193_5 ((rd_T30 l0 x3_1).f4).length c193_5), .int .i64 ((rd_T30 l0 x3_1).f5)] 30 (0, 0))) ∧ Aside0 (wc.heap[gb204]? = some (.cells #[.int .i64 t200, (.slice Ao31 t201.length co31)] 25 (0, 0))) ∧ Aside0 (Below w.heap.size w wc)) ?_ ?_
                ·
                 intro _ _ _ _
                 have H := HC56.out
                 clear HC56
                 by_cases c57 : x82_47 = true
                 ·subst c57
                  have H1 : ((gimballaw30_num.f t213).bind fun t214 => (if t214 = 0 then (if t212 = ((1191182336 + ((((rd_T30 l0 x3_1).f1)) % 4294967296)) % 4294967296) then (gimballaw30_LogExact.j5 kj47 l0 x3_1 ((rd_T30 l0 x3_1).f0.f0) ((rd_T30 l0 x3_1).f0.f1) ((rd_T30 l0 x3_1).f1) ((rd_T30 l0 x3_1).f2) ((rd_T30 l0 x3_1).f3) ((rd_T30 l0 x3_1).f4) ((rd_T30 l0 x3_1).f5)) else (some false)) else (some false))) = some r := by rw [if_pos rfl] at H; exact H
                  clear H
                  have H := H1
                  clear H1
                  replace H := Option.bind_eq_some_iff.mp H
                  obtain ⟨t214, A580, H⟩ := H
                  replace H : (if t214 = 0 then (if t212 = ((1191182336 + ((((rd_T30 l0 x3_1).f1)) % 4294967296)) % 4294967296) then (gimballaw30_LogExact.j5 kj47 l0 x3_1 ((rd_T30 l0 x3_1).f0.f0) ((rd_T30 l0 x3_1).f0.f1) ((rd_T30 l0 x3_1).f1) ((rd_T30 l0 x3_1).f2) ((rd_T30 l0 x3_1).f3) ((rd_T30 l0 x3_1).f4) ((rd_T30 l0 x3_1).f5)) else (some false)) else (some false)) = some r := H
                  have A58 := Aside0.mk A580
                  clear A580
                  by_cases c59 : t214 = 0
                  ·rw [if_pos c59] at H
                   have c59b0 : (t214 == 0) = true := beq_iff_eq.mpr c59
                   have c59b1 : (t214 != 0) = false := bne_eq_false_iff_eq.mpr c59
                   clear c59
                   (first | rw [c59b0] | (simp only [i64_w, i32_w]; rw [c59b0]) | skip)
                   by_cases c60 : t212 = ((1191182336 + ((((rd_T30 l0 x3_1).f1)) % 4294967296)) % 4294967296)
                   ·rw [if_pos c60] at H
                    have c60b0 : (t212 == ((1191182336 + ((((rd_T30 l0 x3_1).f1)) % 4294967296)) % 4294967296)) = true := beq_iff_eq.mpr c60
                    have c60b0n := c60b0
                    (try simp only [Int.add_emod_emod, Int.emod_add_emod] at c60b0n)
                    have c60b1 : (t212 != ((1191182336 + ((((rd_T30 l0 x3_1).f1)) % 4294967296)) % 4294967296)) = false := bne_eq_false_iff_eq.mpr c60
                    have c60b1n := c60b1
                    (try simp only [Int.add_emod_emod, Int.emod_add_emod] at c60b1n)
                    clear c60
                    have H' := Aside0.mk H
                    clear H
                    go_wp2_with (first | ((with_reducible refine gate_callee (f := 9) rfl ?_); refine goesL_ (some 84) rfl rfl Try.func9 (by kernel_rfl) rfl #[.int .i64 t213] rfl Sq.m ?_; (with_reducible refine (gimballaw30_num.calls t213 t214 _ A58.out).mono ?_); rintro e w' ⟨rfl, ⟨nd, rfl⟩⟩; refine ⟨_, rfl, ?_⟩; have b61 := NB194_204.out; have d61 := NB204_194.out; obtain ⟨z62_0, z62_1, z62_2, z62_3, z62_4, z62_5, z62_6⟩ := Sq.c7 BK194.out; obtain ⟨y62_0, y62_1, y62_2, y62_3, y62_4, y62_5, y62_6⟩ := Sq.f7 BK194.out))
                    refine Cu.meet (by assumption) ?_ (by kernel_rfl) (by kernel_rfl)
                    try dsimp only [Cu.pick, Cu.nth]
                    exact ⟨_, H', ⟨by have := HK1.out; have := HJ1.out; have := HJ12.out; have := HJ24.out; have := HJ47.out; first | omega | exact Nat.le_refl _⟩, ⟨Sq.rR HO_205001.out⟩, ⟨Sq.b BK194.out⟩, ⟨Sq.b BK204.out⟩, ⟨Sq.w HB.out⟩⟩
                   ·rw [if_neg c60] at H
                    have c60b0 : (t212 == ((1191182336 + ((((rd_T30 l0 x3_1).f1)) % 4294967296)) % 4294967296)) = false := beq_eq_false_iff_ne.mpr c60
                    have c60b0n := c60b0
                    (try simp only [Int.add_emod_emod, Int.emod_add_emod] at c60b0n)
                    have c60b1 : (t212 != ((1191182336 + ((((rd_T30 l0 x3_1).f1)) % 4294967296)) % 4294967296)) = true := bne_iff_ne.mpr c60
                    have c60b1n := c60b1
                    (try simp only [Int.add_emod_emod, Int.emod_add_emod] at c60b1n)
                    exact absurd ((Option.some.inj H).trans hrt_.out) (by simp)
                  ·rw [if_neg c59] at H
                   have c59b0 : (t214 == 0) = false := beq_eq_false_iff_ne.mpr c59
                   have c59b1 : (t214 != 0) = true := bne_iff_ne.mpr c59
                   (first | rw [c59b0] | (simp only [i64_w, i32_w]; rw [c59b0]) | skip)
                   exact absurd ((Option.some.inj H).trans hrt_.out) (by simp)
                 ·replace c57 := Bool.eq_false_iff.mpr c57
                  subst c57
                  have H1 : ((gimballaw30_num.f t213).bind fun t215 => (if t215 = 1 then (if t212 = 0 then (gimballaw30_LogExact.j5 kj47 l0 x3_1 ((rd_T30 l0 x3_1).f0.f0) ((rd_T30 l0 x3_1).f0.f1) ((rd_T30 l0 x3_1).f1) ((rd_T30 l0 x3_1).f2) ((rd_T30 l0 x3_1).f3) ((rd_T30 l0 x3_1).f4) ((rd_T30 l0 x3_1).f5)) else (some false)) else (some false))) = some r := by rw [if_neg (show ¬ (false = true) by decide)] at H; exact H
                  clear H
                  have H := H1
                  clear H1
                  replace H := Option.bind_eq_some_iff.mp H
                  obtain ⟨t215, A630, H⟩ := H
                  replace H : (if t215 = 1 then (if t212 = 0 then (gimballaw30_LogExact.j5 kj47 l0 x3_1 ((rd_T30 l0 x3_1).f0.f0) ((rd_T30 l0 x3_1).f0.f1) ((rd_T30 l0 x3_1).f1) ((rd_T30 l0 x3_1).f2) ((rd_T30 l0 x3_1).f3) ((rd_T30 l0 x3_1).f4) ((rd_T30 l0 x3_1).f5)) else (some false)) else (some false)) = some r := H
                  have A63 := Aside0.mk A630
                  clear A630
                  by_cases c64 : t215 = 1
                  ·rw [if_pos c64] at H
                   have c64b0 : (t215 == 1) = true := beq_iff_eq.mpr c64
                   have c64b1 : (t215 != 1) = false := bne_eq_false_iff_eq.mpr c64
                   clear c64
                   by_cases c65 : t212 = 0
                   ·rw [if_pos c65] at H
                    have c65b0 : (t212 == 0) = true := beq_iff_eq.mpr c65
                    have c65b1 : (t212 != 0) = false := bne_eq_false_iff_eq.mpr c65
                    clear c65
                    have H' := Aside0.mk H
                    clear H
                    go_wp2_with (first | ((with_reducible refine gate_callee (f := 9) rfl ?_); refine goesL_ (some 95) rfl rfl Try.func9 (by kernel_rfl) rfl #[.int .i64 t213] rfl Sq.m ?_; (with_reducible refine (gimballaw30_num.calls t213 t215 _ A63.out).mono ?_); rintro e w' ⟨rfl, ⟨nd, rfl⟩⟩; refine ⟨_, rfl, ?_⟩))
                    refine Cu.meet (by assumption) ?_ (by kernel_rfl) (by kernel_rfl)
                    try dsimp only [Cu.pick, Cu.nth]
                    exact ⟨_, H', ⟨by have := HK1.out; have := HJ1.out; have := HJ12.out; have := HJ24.out; have := HJ47.out; first | omega | exact Nat.le_refl _⟩, ⟨Sq.rR HO_205001.out⟩, ⟨Sq.b BK194.out⟩, ⟨Sq.b BK204.out⟩, ⟨Sq.w HB.out⟩⟩
                   ·rw [if_neg c65] at H
                    have c65b0 : (t212 == 0) = false := beq_eq_false_iff_ne.mpr c65
                    have c65b1 : (t212 != 0) = true := bne_iff_ne.mpr c65
                    exact absurd ((Option.some.inj H).trans hrt_.out) (by simp)
                  ·rw [if_neg c64] at H
                   have c64b0 : (t215 == 1) = false := beq_eq_false_iff_ne.mpr c64
                   have c64b1 : (t215 != 1) = true := bne_iff_ne.mpr c64
                   exact absurd ((Option.some.inj H).trans hrt_.out) (by simp)
                ·
                 intro wc u2 u22 u23 u24 u25 u26 u27 u28 u29 u30 u31 u32 u33 u34 u35 u36 u37 u38 u39 u40 u41 u42 u43 u44 u45 u46 u47 u48 u49 u50 u51 u52 u53 u54 u55 u56 u57 u58 u59 u60 u61 u62 u63 u64 u65 u66 u67 u68 u69 u70 u71 u72 u73 u74 u75 u76 u77 u78 u79 u80 u81 u82 u83 u84 u85 u86 u87 u88 u89 u90 u91 u92 u93 u94 u95 u96 u97 u98 u99 u100 u101 u102 u103 u104 u105 u106 u107 u108 u109 u110 u111 u112 u113 u114 u115 u116 u117 u118 u119 u120 u121 u122 u123 u124 u125 u126 u127 u128 u129 u130 u131 u132 u133 u134 u135 u136 u137 u138 u139 u140 u141 u142 u143 u144 u145 u146 u147 u148 u149 u150 u151 u152 u153 u154 u155 u156 u157 u158 u159 u160 u161 u162 u163
                 try dsimp only [Cu.over, Cu.nth]
                 intro hcut
                 clear HC56
                 obtain ⟨kq, HA, HJ55, HO_205001, BK194, BK204, HB⟩ := hcut
                 cases kq with
                 | zero => exact absurd HA.out (by simp [gimballaw30_LogExact.j5])
                 | succ kj55 =>
                  have H := HA.out
                  clear HA
                  simp only [gimballaw30_LogExact.j5] at H
                  replace H := Option.bind_eq_some_iff.mp H
                  obtain ⟨⟨t216, t217⟩, A660, H⟩ := H
                  replace H : ((gimbalref29_Gen.f ((rd_T30 l0 x3_1).f2)).bind fun bt218 => (if t216 = bt218.1 then (gimballaw30_LogExact.j6 kj55 l0 x3_1 (t217 != bt218.2) ((rd_T30 l0 x3_1).f0.f0) ((rd_T30 l0 x3_1).f0.f1) ((rd_T30 l0 x3_1).f1) ((rd_T30 l0 x3_1).f2) ((rd_T30 l0 x3_1).f3) ((rd_T30 l0 x3_1).f4) ((rd_T30 l0 x3_1).f5)) else (gimballaw30_LogExact.j6 kj55 l0 x3_1 true ((rd_T30 l0 x3_1).f0.f0) ((rd_T30 l0 x3_1).f0.f1) ((rd_T30 l0 x3_1).f1) ((rd_T30 l0 x3_1).f2) ((rd_T30 l0 x3_1).f3) ((rd_T30 l0 x3_1).f4) ((rd_T30 l0 x3_1).f5)))) = some r := H
                  have A66 := Aside0.mk A660
                  clear A660
                  replace H := Option.bind_eq_some_iff.mp H
                  obtain ⟨⟨t218, t219⟩, A670, H⟩ := H
                  replace H : (if t216 = t218 then (gimballaw30_LogExact.j6 kj55 l0 x3_1 (t217 != t219) ((rd_T30 l0 x3_1).f0.f0) ((rd_T30 l0 x3_1).f0.f1) ((rd_T30 l0 x3_1).f1) ((rd_T30 l0 x3_1).f2) ((rd_T30 l0 x3_1).f3) ((rd_T30 l0 x3_1).f4) ((rd_T30 l0 x3_1).f5)) else (gimballaw30_LogExact.j6 kj55 l0 x3_1 true ((rd_T30 l0 x3_1).f0.f0) ((rd_T30 l0 x3_1).f0.f1) ((rd_T30 l0 x3_1).f1) ((rd_T30 l0 x3_1).f2) ((rd_T30 l0 x3_1).f3) ((rd_T30 l0 x3_1).f4) ((rd_T30 l0 x3_1).f5))) = some r := H
                  have A67 := Aside0.mk A670
                  clear A670
                  have HC68 := Aside0.mk H
                  clear H; have b69 := NB194_204.out; have d69 := NB204_194.out
                  obtain ⟨z70_0, z70_1, z70_2, z70_3, z70_4, z70_5, z70_6⟩ := Sq.c7 BK194.out
                  obtain ⟨y70_0, y70_1, y70_2, y70_3, y70_4, y70_5, y70_6⟩ := Sq.f7 BK194.out
                  go_upto_region 24 with (first | ((with_reducible refine gate_callee (f := 14) rfl ?_); refine goesL_ (some 104) rfl rfl Try.func14 (by kernel_rfl) rfl #[.int .u32 ((rd_T30 l0 x3_1).f2)] rfl Sq.m ?_; (with_reducible refine (log_Gen.calls ((rd_T30 l0 x3_1).f2) t216 t217 _ A66.out).mono ?_); rintro e w' ⟨rfl, ⟨nd, rfl⟩⟩; refine ⟨_, rfl, ?_⟩) | ((with_reducible refine gate_callee (f := 19) rfl ?_); refine goesL_ (some 110) rfl rfl Try.func19 (by kernel_rfl) rfl #[.int .u32 ((rd_T30 l0 x3_1).f2)] rfl Sq.m ?_; (with_reducible refine (gimbalref29_Gen.calls ((rd_T30 l0 x3_1).f2) t218 t219 _ A67.out).mono ?_); rintro e w' ⟨rfl, ⟨nd, rfl⟩⟩; refine ⟨_, rfl, ?_⟩))
                  (try simp only [Act.put, List.setIfInBounds_toArray, List.set_cons_zero, List.set_cons_succ])
                  refine Cu.wp_cut (Cu.f :: Cu.f :: Cu.f :: Cu.f :: Cu.f :: Cu.f :: Cu.f :: Cu.f :: Cu.f :: Cu.f :: Cu.f :: Cu.f :: Cu.f :: Cu.f :: Cu.f :: Cu.f :: Cu.f :: Cu.f :: Cu.f :: Cu.f :: Cu.f :: Cu.f :: Cu.t :: Cu.t :: Cu.t :: Cu.t :: Cu.t :: Cu.t :: Cu.t :: Cu.t :: Cu.t :: Cu.t :: Cu.t :: Cu.t :: Cu.t :: Cu.t :: Cu.t :: Cu.t :: Cu.t :: Cu.t :: Cu.t :: Cu.t :: Cu.t :: Cu.t :: Cu.t :: Cu.t :: Cu.t :: Cu.t :: Cu.t :: Cu.t :: Cu.t :: Cu.t :: Cu.t :: Cu.t :: Cu.t :: Cu.t :: Cu.t :: Cu.t :: Cu.t :: Cu.t :: Cu.t :: Cu.t :: Cu.t :: Cu.t :: Cu.t :: Cu.t :: Cu.t :: Cu.t :: Cu.t :: Cu.t :: Cu.t :: Cu.t :: Cu.t :: Cu.t :: Cu.t :: Cu.t :: Cu.t :: Cu.t :: Cu.t :: Cu.t :: Cu.t :: Cu.t :: Cu.t :: Cu.t :: Cu.t :: Cu.t :: Cu.t :: Cu.t :: Cu.t :: Cu.t :: Cu.t :: Cu.t :: Cu.t :: Cu.t :: Cu.t :: Cu.t :: Cu.t :: Cu.t :: Cu.t :: Cu.t :: Cu.t :: Cu.t :: Cu.t :: Cu.t :: Cu.t :: Cu.t :: Cu.t :: Cu.t :: Cu.t :: Cu.t :: Cu.t :: Cu.t :: Cu.t :: Cu.t :: Cu.t :: Cu.t :: Cu.t :: Cu.t :: Cu.t :: Cu.t :: Cu.t :: Cu.t :: Cu.t :: Cu.t :: Cu.t :: Cu.t :: Cu.t :: Cu.t :: Cu.t :: Cu.t :: Cu.t :: Cu.t :: Cu.t :: Cu.t :: Cu.t :: Cu.t :: Cu.t :: Cu.t :: Cu.t :: Cu.t :: Cu.t :: Cu.t :: Cu.t :: Cu.t :: Cu.t :: Cu.t :: Cu.t :: Cu.t :: Cu.t :: Cu.t :: Cu.t :: Cu.t :: Cu.t :: Cu.t :: Cu.t :: Cu.t :: Cu.t :: Cu.t :: Cu.t :: Cu.t :: Cu.t :: Cu.t :: Cu.t :: Cu.t :: Cu.f :: []) 142 (fun us_ wc => ∃ (kq : Nat) (x120_67 : Bool), (Cu.nth us_ 98) = .bool x120_67 ∧ Aside0 (gimballaw30_LogExact.j6 kq l0 x3_1 x120_67 ((rd_T30 l0 x3_1).f0.f0) ((rd_T30 l0 x3_1).f0.f1) ((rd_T30 l0 x3_1).f1) ((rd_T30 l0 x3_1).f2) ((rd_T30 l0 x3_1).f3) ((rd_T30 l0 x3_1).f4) ((rd_T30 l0 x3_1).f5) = some r) ∧ Aside0 (kq ≤ kj55) ∧ Aside0 (Kd.R (Kd.int .u8) 5 wc w.heap.size (fun _ => True) (.slice Ao31 t201.length co31) t201) ∧ Aside0 (wc.heap[gb194]? = some (.cells #[.int .i64 ((rd_T30 l0 x3_1).f0.f0), (.slice A193_1 ((rd_T30 l0 x3_1).f0.f1).length c193_1), .int .i64 ((rd_T30 l0 x3_1).f1), .int .u32 ((rd_T30 l0 x3_1).f2), (.slice A193_4 ((rd_T30 l0 x3_1).f3).length c193_4), (.slice A193_5 ((rd_T30 l0 x3_1).f4).length c193_5), .int .i64 ((rd_T30 l0 x3_1).f5)] 30 (0, 0))) ∧ Aside0 (wc.heap[gb204]? = some (.cells #[.int .i64 t200, (.slice Ao31 t201.length co31)] 25 (0, 0))) ∧ Aside0 (Below w.heap.size w wc)) ?_ ?_
                  ·
                   intro _ _ _ _
                   have H := HC68.out
                   clear HC68
                   by_cases c71 : t216 = t218
                   ·rw [if_pos c71] at H
                    have c71b0 : (t216 == t218) = true := beq_iff_eq.mpr c71
                    have c71b1 : (t216 != t218) = false := bne_eq_false_iff_eq.mpr c71
                    clear c71
                    (first | rw [c71b0] | (simp only [i64_w, i32_w]; rw [c71b0]) | skip)
                    have H' := Aside0.mk H
                    clear H
                    go_wp2
                    refine Cu.meet (by assumption) ?_ (by kernel_rfl) (by kernel_rfl)
                    try dsimp only [Cu.pick, Cu.nth]
                    exact ⟨_, ((t217 != t219)), Sq.e, H', ⟨by have := HK1.out; have := HJ1.out; have := HJ12.out; have := HJ24.out; have := HJ47.out; have := HJ55.out; first | omega | exact Nat.le_refl _⟩, ⟨Sq.rR HO_205001.out⟩, ⟨Sq.b BK194.out⟩, ⟨Sq.b BK204.out⟩, ⟨Sq.w HB.out⟩⟩
                   ·rw [if_neg c71] at H
                    have c71b0 : (t216 == t218) = false := beq_eq_false_iff_ne.mpr c71
                    have c71b1 : (t216 != t218) = true := bne_iff_ne.mpr c71
                    (first | rw [c71b0] | (simp only [i64_w, i32_w]; rw [c71b0]) | skip)
                    have H' := Aside0.mk H
                    clear H
                    go_wp2
                    refine Cu.meet (by assumption) ?_ (by kernel_rfl) (by kernel_rfl)
                    try dsimp only [Cu.pick, Cu.nth]
                    exact ⟨_, (true), Sq.e, H', ⟨by have := HK1.out; have := HJ1.out; have := HJ12.out; have := HJ24.out; have := HJ47.out; have := HJ55.out; first | omega | exact Nat.le_refl _⟩, ⟨Sq.rR HO_205001.out⟩, ⟨Sq.b BK194.out⟩, ⟨Sq.b BK204.out⟩, ⟨Sq.w HB.out⟩⟩
                  ·
                   intro wc u22 u23 u24 u25 u26 u27 u28 u29 u30 u31 u32 u33 u34 u35 u36 u37 u38 u39 u40 u41 u42 u43 u44 u45 u46 u47 u48 u49 u50 u51 u52 u53 u54 u55 u56 u57 u58 u59 u60 u61 u62 u63 u64 u65 u66 u67 u68 u69 u70 u71 u72 u73 u74 u75 u76 u77 u78 u79 u80 u81 u82 u83 u84 u85 u86 u87 u88 u89 u90 u91 u92 u93 u94 u95 u96 u97 u98 u99 u100 u101 u102 u103 u104 u105 u106 u107 u108 u109 u110 u111 u112 u113 u114 u115 u116 u117 u118 u119 u120 u121 u122 u123 u124 u125 u126 u127 u128 u129 u130 u131 u132 u133 u134 u135 u136 u137 u138 u139 u140 u141 u142 u143 u144 u145 u146 u147 u148 u149 u150 u151 u152 u153 u154 u155 u156 u157 u158 u159 u160 u161 u162 u163
                   try dsimp only [Cu.over, Cu.nth]
                   intro hcut
                   clear HC68; (try clear z70_0 z70_1 z70_2 z70_3 z70_4 z70_5 z70_6); (try clear y70_0 y70_1 y70_2 y70_3 y70_4 y70_5 y70_6)
                   obtain ⟨kq, x120_67, rfl, HA, HJ67, HO_205001, BK194, BK204, HB⟩ := hcut
                   cases kq with
                   | zero => exact absurd HA.out (by simp [gimballaw30_LogExact.j6])
                   | succ kj67 =>
                    have H := HA.out
                    clear HA
                    simp only [gimballaw30_LogExact.j6] at H
                    by_cases c72 : x120_67 = true
                    ·subst c72
                     have H1 : (some false) = some r := by rw [if_pos rfl] at H; exact H
                     clear H
                     have H := H1
                     clear H1
                     exact absurd ((Option.some.inj H).trans hrt_.out) (by simp)
                    ·replace c72 := Bool.eq_false_iff.mpr c72
                     subst c72
                     have H1 : (if (((rd_T30 l0 x3_1).f3).length : Int) = 256 then ((gimbalref29_Scan.f kj67 ((rd_T30 l0 x3_1).f3)).bind fun bt220 => (gimballaw30_LogExact.j7 kj67 l0 x3_1 0 bt220.1 bt220.2 ((rd_T30 l0 x3_1).f0.f0) ((rd_T30 l0 x3_1).f0.f1) ((rd_T30 l0 x3_1).f1) ((rd_T30 l0 x3_1).f2) ((rd_T30 l0 x3_1).f3) ((rd_T30 l0 x3_1).f4) ((rd_T30 l0 x3_1).f5))) else (gimballaw30_LogExact.j7 kj67 l0 x3_1 1 ([] : List (S25)) 0 ((rd_T30 l0 x3_1).f0.f0) ((rd_T30 l0 x3_1).f0.f1) ((rd_T30 l0 x3_1).f1) ((rd_T30 l0 x3_1).f2) ((rd_T30 l0 x3_1).f3) ((rd_T30 l0 x3_1).f4) ((rd_T30 l0 x3_1).f5))) = some r := by rw [if_neg (show ¬ (false = true) by decide)] at H; exact H
                     clear H
                     have H := H1
                     clear H1
                     have HC73 := Aside0.mk H
                     clear H; have b74 := NB194_204.out; have d74 := NB204_194.out
                     obtain ⟨z75_0, z75_1, z75_2, z75_3, z75_4, z75_5, z75_6⟩ := Sq.c7 BK194.out
                     obtain ⟨y75_0, y75_1, y75_2, y75_3, y75_4, y75_5, y75_6⟩ := Sq.f7 BK194.out
                     go_upto_if 124 with (fail)
                     refine Cu.wp_cut (Cu.f :: Cu.f :: Cu.f :: Cu.f :: Cu.f :: Cu.t :: Cu.f :: Cu.f :: Cu.f :: Cu.f :: Cu.f :: Cu.f :: Cu.f :: Cu.f :: Cu.f :: Cu.f :: Cu.t :: Cu.t :: Cu.f :: Cu.f :: Cu.f :: Cu.f :: Cu.t :: Cu.t :: Cu.t :: Cu.t :: Cu.t :: Cu.t :: Cu.t :: Cu.t :: Cu.t :: Cu.t :: Cu.t :: Cu.t :: Cu.t :: Cu.t :: Cu.t :: Cu.t :: Cu.t :: Cu.t :: Cu.t :: Cu.t :: Cu.t :: Cu.t :: Cu.t :: Cu.t :: Cu.t :: Cu.t :: Cu.t :: Cu.t :: Cu.t :: Cu.t :: Cu.t :: Cu.t :: Cu.t :: Cu.t :: Cu.t :: Cu.t :: Cu.t :: Cu.t :: Cu.t :: Cu.t :: Cu.t :: Cu.t :: Cu.t :: Cu.t :: Cu.t :: Cu.t :: Cu.t :: Cu.t :: Cu.t :: Cu.t :: Cu.t :: Cu.t :: Cu.t :: Cu.t :: Cu.t :: Cu.t :: Cu.t :: Cu.t :: Cu.t :: Cu.t :: Cu.t :: Cu.t :: Cu.t :: Cu.t :: Cu.t :: Cu.t :: Cu.t :: Cu.t :: Cu.t :: Cu.t :: Cu.t :: Cu.t :: Cu.t :: Cu.t :: Cu.t :: Cu.t :: Cu.t :: Cu.t :: Cu.t :: Cu.t :: Cu.t :: Cu.t :: Cu.t :: Cu.t :: Cu.t :: Cu.t :: Cu.t :: Cu.t :: Cu.t :: Cu.t :: Cu.t :: Cu.t :: Cu.t :: Cu.t :: Cu.t :: Cu.t :: Cu.t :: Cu.t :: Cu.t :: Cu.t :: Cu.t :: Cu.t :: Cu.t :: Cu.t :: Cu.t :: Cu.t :: Cu.t :: Cu.t :: Cu.t :: Cu.t :: Cu.t :: Cu.t :: Cu.t :: Cu.t :: Cu.t :: Cu.t :: Cu.t :: Cu.t :: Cu.t :: Cu.t :: Cu.t :: Cu.t :: Cu.t :: Cu.t :: Cu.t :: Cu.t :: Cu.t :: Cu.t :: Cu.t :: Cu.t :: Cu.t :: Cu.t :: Cu.t :: Cu.t :: Cu.t :: Cu.t :: Cu.t :: Cu.t :: Cu.t :: Cu.t :: Cu.t :: Cu.t :: Cu.f :: []) 145 (fun us_ wc => ∃ (kq : Nat) (x5_72 : Int) (x16_72 : List (S25)) (x17_72 : Int), (Cu.nth us_ 0) = .int .i64 x5_72 ∧ (Cu.nth us_ 2) = .int .i64 x17_72 ∧ Aside0 (gimballaw30_LogExact.j7 kq l0 x3_1 x5_72 x16_72 x17_72 ((rd_T30 l0 x3_1).f0.f0) ((rd_T30 l0 x3_1).f0.f1) ((rd_T30 l0 x3_1).f1) ((rd_T30 l0 x3_1).f2) ((rd_T30 l0 x3_1).f3) ((rd_T30 l0 x3_1).f4) ((rd_T30 l0 x3_1).f5) = some r) ∧ Aside0 (kq ≤ kj67) ∧ Aside0 (Kd.S k25 25 wc w.heap.size (fun k_ => some k_ ≠ ((.slice Ao31 t201.length co31) : Value).ownBlock ∧ k_ ≠ gb204) (Cu.nth us_ 1) x16_72) ∧ Aside0 (Kd.R (Kd.int .u8) 5 wc w.heap.size (fun _ => True) (.slice Ao31 t201.length co31) t201) ∧ Aside0 (wc.heap[gb194]? = some (.cells #[.int .i64 ((rd_T30 l0 x3_1).f0.f0), (.slice A193_1 ((rd_T30 l0 x3_1).f0.f1).length c193_1), .int .i64 ((rd_T30 l0 x3_1).f1), .int .u32 ((rd_T30 l0 x3_1).f2), (.slice A193_4 ((rd_T30 l0 x3_1).f3).length c193_4), (.slice A193_5 ((rd_T30 l0 x3_1).f4).length c193_5), .int .i64 ((rd_T30 l0 x3_1).f5)] 30 (0, 0))) ∧ Aside0 (wc.heap[gb204]? = some (.cells #[.int .i64 t200, (.slice Ao31 t201.length co31)] 25 (0, 0))) ∧ Aside0 (Below w.heap.size w wc)) ?_ ?_
                     ·
                      intro _ _ _ _
                      have H := HC73.out
                      clear HC73
                      by_cases c76 : (((rd_T30 l0 x3_1).f3).length : Int) = 256
                      ·rw [if_pos c76] at H
                       have c76b0 : ((((rd_T30 l0 x3_1).f3).length : Int) == 256) = true := beq_iff_eq.mpr c76
                       have c76b1 : ((((rd_T30 l0 x3_1).f3).length : Int) != 256) = false := bne_eq_false_iff_eq.mpr c76
                       clear c76
                       (first | rw [c76b0] | (simp only [i64_w, i32_w]; rw [c76b0]) | skip)
                       replace H := Option.bind_eq_some_iff.mp H
                       obtain ⟨⟨t220, t221⟩, A770, H⟩ := H
                       replace H : (gimballaw30_LogExact.j7 kj67 l0 x3_1 0 t220 t221 ((rd_T30 l0 x3_1).f0.f0) ((rd_T30 l0 x3_1).f0.f1) ((rd_T30 l0 x3_1).f1) ((rd_T30 l0 x3_1).f2) ((rd_T30 l0 x3_1).f3) ((rd_T30 l0 x3_1).f4) ((rd_T30 l0 x3_1).f5)) = some r := H
                       have A77 := Aside0.mk A770
                       clear A770
                       have H' := Aside0.mk H
                       clear H; have b78 := NB194_204.out; have d78 := NB204_194.out
                       obtain ⟨z79_0, z79_1, z79_2, z79_3, z79_4, z79_5, z79_6⟩ := Sq.c7 BK194.out
                       obtain ⟨y79_0, y79_1, y79_2, y79_3, y79_4, y79_5, y79_6⟩ := Sq.f7 BK194.out
                       go_wp2_with (first | ((with_reducible refine gate_callee (f := 20) rfl ?_); refine goesL_ (some 128) rfl rfl Try.func20 (by kernel_rfl) rfl #[.slice A193_4 ((rd_T30 l0 x3_1).f3).length c193_4] rfl Sq.m ?_; (with_reducible refine (gimbalref29_Scan.calls kj67 _ _ ((rd_T30 l0 x3_1).f3) t220 t221 _ ?side1 ?side2 A77.out).mono ?_); (case side1 => repeat (first | exact (Kd.C_below HR193_4.out HB.out) | (with_reducible refine Kd.C_alloc ?_ _) | (with_reducible refine Kd.C_drewN ?_ _) | (with_reducible refine Kd.C_drew ?_))); (case side2 => exact HC193_4.out); rintro e w80 ⟨v222, rfl, ho0, hb⟩; refine ⟨_, rfl, ?_⟩; have HO223 := Aside0.mk (Kd.S_lower (Kd.S_newB (Kd.S_new' ho0 (Kd.R_lt (Sq.rR HO_205001.out))) (g := gb204) (o := .cells #[.int .i64 t200, .slice Ao31 t201.length co31] 25 (0, 0)) (Sq.b BK204.out)) (below_size (Sq.w HB.out))); replace HO_205001 := Sq.sR HO_205001 hb; replace BK194 := Sq.sb BK194 hb; replace BK204 := Sq.sb BK204 hb; replace HB := Sq.sw HB hb; (try clear hb); (try clear hb2); (try clear hk); (try clear hi); (try clear ho0)))
                       refine Cu.meet (by assumption) ?_ (by kernel_rfl) (by kernel_rfl)
                       try dsimp only [Cu.pick, Cu.nth]
                       exact ⟨_, (0), (t220), (t221), Sq.e, Sq.e, H', ⟨by have := HK1.out; have := HJ1.out; have := HJ12.out; have := HJ24.out; have := HJ47.out; have := HJ55.out; have := HJ67.out; first | omega | exact Nat.le_refl _⟩, ⟨Sq.rS (Kd.S_mono HO223.out (fun _ hk => ⟨hk.1.2, hk.2⟩))⟩, ⟨Sq.rR HO_205001.out⟩, ⟨Sq.b BK194.out⟩, ⟨Sq.b BK204.out⟩, ⟨Sq.w HB.out⟩⟩
                      ·rw [if_neg c76] at H
                       have c76b0 : ((((rd_T30 l0 x3_1).f3).length : Int) == 256) = false := beq_eq_false_iff_ne.mpr c76
                       have c76b1 : ((((rd_T30 l0 x3_1).f3).length : Int) != 256) = true := bne_iff_ne.mpr c76
                       (first | rw [c76b0] | (simp only [i64_w, i32_w]; rw [c76b0]) | skip)
                       have H' := Aside0.mk H
                       clear H
                       go_wp2
                       refine Cu.meet (by assumption) ?_ (by kernel_rfl) (by kernel_rfl)
                       try dsimp only [Cu.pick, Cu.nth]
                       exact ⟨_, (1), (([] : List (S25))), (0), Sq.e, Sq.e, H', ⟨by have := HK1.out; have := HJ1.out; have := HJ12.out; have := HJ24.out; have := HJ47.out; have := HJ55.out; have := HJ67.out; first | omega | exact Nat.le_refl _⟩, ⟨by first | exact Kd.S_nil _ _ _ _ _ | exact Kd.N_nil _ _ _ _ _ | exact Kd.V_nil _ _ _ _ _ | exact Kd.Q_nil _ _ _ _ _ | exact Kd.R_nil _ _ _ _ _⟩, ⟨Sq.rR HO_205001.out⟩, ⟨Sq.b BK194.out⟩, ⟨Sq.b BK204.out⟩, ⟨Sq.w HB.out⟩⟩
                     ·
                      intro wc u5 u16 u17 u22 u23 u24 u25 u26 u27 u28 u29 u30 u31 u32 u33 u34 u35 u36 u37 u38 u39 u40 u41 u42 u43 u44 u45 u46 u47 u48 u49 u50 u51 u52 u53 u54 u55 u56 u57 u58 u59 u60 u61 u62 u63 u64 u65 u66 u67 u68 u69 u70 u71 u72 u73 u74 u75 u76 u77 u78 u79 u80 u81 u82 u83 u84 u85 u86 u87 u88 u89 u90 u91 u92 u93 u94 u95 u96 u97 u98 u99 u100 u101 u102 u103 u104 u105 u106 u107 u108 u109 u110 u111 u112 u113 u114 u115 u116 u117 u118 u119 u120 u121 u122 u123 u124 u125 u126 u127 u128 u129 u130 u131 u132 u133 u134 u135 u136 u137 u138 u139 u140 u141 u142 u143 u144 u145 u146 u147 u148 u149 u150 u151 u152 u153 u154 u155 u156 u157 u158 u159 u160 u161 u162 u163
                      try dsimp only [Cu.over, Cu.nth]
                      intro hcut
                      clear HC73; (try clear c72); (try clear z75_0 z75_1 z75_2 z75_3 z75_4 z75_5 z75_6); (try clear y75_0 y75_1 y75_2 y75_3 y75_4 y75_5 y75_6)
                      obtain ⟨kq, x5_72, x16_72, x17_72, rfl, rfl, HA, HJ72, HO_16, HO_205001, BK194, BK204, HB⟩ := hcut
                      cases kq with
                      | zero => exact absurd HA.out (by simp [gimballaw30_LogExact.j7])
                      | succ kj72 =>
                       have H := HA.out
                       clear HA
                       simp only [gimballaw30_LogExact.j7] at H
                       replace H := Option.bind_eq_some_iff.mp H
                       obtain ⟨t224, A810, H⟩ := H
                       replace H : ((log_Scan.f t224).bind fun bt227 => ((gimballaw30_num.f bt227.2.2).bind fun t232 => (if t232 = x5_72 then (if bt227.2.1 = x17_72 then ((gimbalref0_EqEntries.f kj72 bt227.1 x16_72).bind fun t233 => (if t233 = true then ((gimbalref0_EqWords.f kj72 t224 ((rd_T30 l0 x3_1).f3)).bind fun t234 => (if t234 = true then ((gimballaw0_Entries.f bt227.1).bind fun _ => (gimballaw30_LogExact.l0 kj72 l0 (wrap64 (x3_1 + 1)))) else (some false))) else (some false))) else (some false)) else (some false)))) = some r := H
                       have A81 := Aside0.mk A810
                       clear A810
                       replace H := Option.bind_eq_some_iff.mp H
                       obtain ⟨⟨t227, t228, t229⟩, A820, H⟩ := H
                       replace H : ((gimballaw30_num.f t229).bind fun t232 => (if t232 = x5_72 then (if t228 = x17_72 then ((gimbalref0_EqEntries.f kj72 t227 x16_72).bind fun t233 => (if t233 = true then ((gimbalref0_EqWords.f kj72 t224 ((rd_T30 l0 x3_1).f3)).bind fun t234 => (if t234 = true then ((gimballaw0_Entries.f t227).bind fun _ => (gimballaw30_LogExact.l0 kj72 l0 (wrap64 (x3_1 + 1)))) else (some false))) else (some false))) else (some false)) else (some false))) = some r := H
                       have A82 := Aside0.mk A820
                       clear A820
                       replace H := Option.bind_eq_some_iff.mp H
                       obtain ⟨t232, A830, H⟩ := H
                       replace H : (if t232 = x5_72 then (if t228 = x17_72 then ((gimbalref0_EqEntries.f kj72 t227 x16_72).bind fun t233 => (if t233 = true then ((gimbalref0_EqWords.f kj72 t224 ((rd_T30 l0 x3_1).f3)).bind fun t234 => (if t234 = true then ((gimballaw0_Entries.f t227).bind fun _ => (gimballaw30_LogExact.l0 kj72 l0 (wrap64 (x3_1 + 1)))) else (some false))) else (some false))) else (some false)) else (some false)) = some r := H
                       have A83 := Aside0.mk A830
                       clear A830
                       by_cases c84 : t232 = x5_72
                       ·rw [if_pos c84] at H
                        have c84b0 : (t232 == x5_72) = true := beq_iff_eq.mpr c84
                        have c84b1 : (t232 != x5_72) = false := bne_eq_false_iff_eq.mpr c84
                        clear c84
                        by_cases c85 : t228 = x17_72
                        ·rw [if_pos c85] at H
                         have c85b0 : (t228 == x17_72) = true := beq_iff_eq.mpr c85
                         have c85b1 : (t228 != x17_72) = false := bne_eq_false_iff_eq.mpr c85
                         clear c85
                         replace H := Option.bind_eq_some_iff.mp H
                         obtain ⟨t233, A860, H⟩ := H
                         replace H : (if t233 = true then ((gimbalref0_EqWords.f kj72 t224 ((rd_T30 l0 x3_1).f3)).bind fun t234 => (if t234 = true then ((gimballaw0_Entries.f t227).bind fun _ => (gimballaw30_LogExact.l0 kj72 l0 (wrap64 (x3_1 + 1)))) else (some false))) else (some false)) = some r := H
                         have A86 := Aside0.mk A860
                         clear A860
                         by_cases c87 : t233 = true
                         ·subst c87
                          have H1 : ((gimbalref0_EqWords.f kj72 t224 ((rd_T30 l0 x3_1).f3)).bind fun t234 => (if t234 = true then ((gimballaw0_Entries.f t227).bind fun _ => (gimballaw30_LogExact.l0 kj72 l0 (wrap64 (x3_1 + 1)))) else (some false))) = some r := by rw [if_pos rfl] at H; exact H
                          clear H
                          have H := H1
                          clear H1
                          replace H := Option.bind_eq_some_iff.mp H
                          obtain ⟨t234, A880, H⟩ := H
                          replace H : (if t234 = true then ((gimballaw0_Entries.f t227).bind fun _ => (gimballaw30_LogExact.l0 kj72 l0 (wrap64 (x3_1 + 1)))) else (some false)) = some r := H
                          have A88 := Aside0.mk A880
                          clear A880
                          by_cases c89 : t234 = true
                          ·subst c89
                           have H1 : ((gimballaw0_Entries.f t227).bind fun _ => (gimballaw30_LogExact.l0 kj72 l0 (wrap64 (x3_1 + 1)))) = some r := by rw [if_pos rfl] at H; exact H
                           clear H
                           have H := H1
                           clear H1
                           replace H := Option.bind_eq_some_iff.mp H
                           obtain ⟨_, A900, H⟩ := H
                           replace H : (gimballaw30_LogExact.l0 kj72 l0 (wrap64 (x3_1 + 1))) = some r := H
                           have A90 := Aside0.mk A900
                           clear A900
                           have H' := Aside0.mk H
                           clear H; have b91 := NB194_204.out; have d91 := NB204_194.out
                           obtain ⟨z92_0, z92_1, z92_2, z92_3, z92_4, z92_5, z92_6⟩ := Sq.c7 BK194.out
                           obtain ⟨y92_0, y92_1, y92_2, y92_3, y92_4, y92_5, y92_6⟩ := Sq.f7 BK194.out
                           go_wp2_with (first | ((with_reducible refine gate_callee (f := 21) rfl ?_); refine goesL_ (some 133) rfl rfl Try.func21 (by kernel_rfl) rfl #[.slice A193_4 ((rd_T30 l0 x3_1).f3).length c193_4] rfl Sq.m ?_; (with_reducible refine (gimbalref0_CopyWords.calls kj72 _ _ ((rd_T30 l0 x3_1).f3) t224 _ ?side1 ?side2 A81.out).mono ?_); (case side1 => repeat (first | exact (Kd.C_below HR193_4.out HB.out) | (with_reducible refine Kd.C_alloc ?_ _) | (with_reducible refine Kd.C_drewN ?_ _) | (with_reducible refine Kd.C_drew ?_))); (case side2 => exact HC193_4.out); rintro e w93 ⟨v225, rfl, ho0, hb⟩; refine ⟨_, rfl, ?_⟩; have HO226 := Aside0.mk (Kd.R_lower ho0 (below_size (Sq.w HB.out))); replace HO_16 := Sq.sS HO_16 hb; replace HO_205001 := Sq.sR HO_205001 hb; replace BK194 := Sq.sb BK194 hb; replace BK204 := Sq.sb BK204 hb; replace HB := Sq.sw HB hb; (try clear hb); (try clear hb2); (try clear hk); (try clear hi); (try clear ho0); obtain ⟨Ao94, co94, eo94⟩ := Kd.R_slice HO226.out; subst eo94) | ((with_reducible refine gate_callee (f := 10) rfl ?_); refine goesL_ (some 136) rfl rfl Try.func10 (by kernel_rfl) rfl #[.slice Ao94 t224.length co94] rfl Sq.m ?_; (with_reducible refine (log_Scan.calls _ _ t224 t227 t228 t229 _ ?side1 ?side2 A82.out).mono ?_); (case side1 => repeat (first | exact (Kd.R_reads' HO226.out).2.2 | (with_reducible refine Kd.C_alloc ?_ _) | (with_reducible refine Kd.C_drewN ?_ _) | (with_reducible refine Kd.C_drew ?_))); (case side2 => exact (Kd.R_reads' HO226.out).2.1); rintro e w95 ⟨v230, rfl, ho0, hb⟩; refine ⟨_, rfl, ?_⟩; have HO231 := Aside0.mk (Kd.S_lower (Kd.S_newB (Kd.S_new' (Kd.S_new' ho0 (Kd.S_lt (Sq.rS HO_16.out))) (Kd.R_lt (Sq.rR HO_205001.out))) (g := gb204) (o := .cells #[.int .i64 t200, .slice Ao31 t201.length co31] 25 (0, 0)) (Sq.b BK204.out)) (below_size (Sq.w HB.out))); replace HO_16 := Aside0.mk (Kd.S_elder' (Sq.rS HO_16.out) (Kd.S_base ho0) hb); replace HO_205001 := Sq.sR HO_205001 hb; replace HO226 := Sq.sR HO226 hb; replace BK194 := Sq.sb BK194 hb; replace BK204 := Sq.sb BK204 hb; replace HB := Sq.sw HB hb; (try clear hb); (try clear hb2); (try clear hk); (try clear hi); (try clear ho0)) | ((with_reducible refine gate_callee (f := 9) rfl ?_); refine goesL_ (some 141) rfl rfl Try.func9 (by kernel_rfl) rfl #[.int .i64 t229] rfl Sq.m ?_; (with_reducible refine (gimballaw30_num.calls t229 t232 _ A83.out).mono ?_); rintro e w' ⟨rfl, ⟨nd, rfl⟩⟩; refine ⟨_, rfl, ?_⟩; obtain ⟨Ao96, co96, eo96⟩ := Kd.S_slice HO231.out; subst eo96; obtain ⟨Ao97, co97, eo97⟩ := Kd.S_slice HO_16.out; subst eo97) | (go_at_call 22; (with_reducible refine (gimbalref0_EqEntries.calls kj72 _ _ t227 _ _ x16_72 true _ ?side1 ?side2 ?side3 ?side4 A86.out).mono ?_); (case side1 => repeat (first | exact (Kd.S_reads' HO231.out).2.2 | (with_reducible refine Kd.C_alloc ?_ _) | (with_reducible refine Kd.C_drewN ?_ _) | (with_reducible refine Kd.C_drew ?_))); (case side2 => exact (Kd.S_reads' HO231.out).2.1); (case side3 => repeat (first | exact (Kd.S_reads' HO_16.out).2.2 | (with_reducible refine Kd.C_alloc ?_ _) | (with_reducible refine Kd.C_drewN ?_ _) | (with_reducible refine Kd.C_drew ?_))); (case side4 => exact (Kd.S_reads' HO_16.out).2.1); rintro e w98 ⟨rfl, hb⟩; replace HO_16 := Sq.sS HO_16 hb; replace HO_205001 := Sq.sR HO_205001 hb; replace HO226 := Sq.sR HO226 hb; replace HO231 := Sq.sS HO231 hb; replace BK194 := Sq.sb BK194 hb; replace BK204 := Sq.sb BK204 hb; replace HB := Sq.sw HB hb; (try clear hb); (try clear hb2); (try clear hk); (try clear hi); obtain ⟨z99_0, z99_1, z99_2, z99_3, z99_4, z99_5, z99_6⟩ := Sq.c7 BK194.out; obtain ⟨y99_0, y99_1, y99_2, y99_3, y99_4, y99_5, y99_6⟩ := Sq.f7 BK194.out) | (go_at_call 18; (with_reducible refine (gimbalref0_EqWords.calls kj72 _ _ t224 _ _ ((rd_T30 l0 x3_1).f3) true _ ?side1 ?side2 ?side3 ?side4 A88.out).mono ?_); (case side1 => repeat (first | exact (Kd.R_reads' HO226.out).2.2 | (with_reducible refine Kd.C_alloc ?_ _) | (with_reducible refine Kd.C_drewN ?_ _) | (with_reducible refine Kd.C_drew ?_))); (case side2 => exact (Kd.R_reads' HO226.out).2.1); (case side3 => repeat (first | exact (Kd.C_below HR193_4.out HB.out) | (with_reducible refine Kd.C_alloc ?_ _) | (with_reducible refine Kd.C_drewN ?_ _) | (with_reducible refine Kd.C_drew ?_))); (case side4 => exact HC193_4.out); rintro e w' ⟨rfl, ⟨nd, rfl⟩⟩) | ((with_reducible refine gate_callee (f := 23) rfl ?_); refine goesL_ (some 163) rfl rfl Try.func23 (by kernel_rfl) rfl #[.slice Ao96 t227.length co96] rfl Sq.m ?_; (with_reducible refine (gimballaw0_Entries.calls _ _ t227 w _ ?side1 ?side2 A90.out).mono ?_); (case side1 => exact (Sq.w HB.out)); (case side2 => exact (Sq.rS (Kd.S_mono HO231.out (fun _ _ => trivial)))); rintro e w100 ⟨rfl, hb⟩; refine ⟨_, rfl, ?_⟩; replace HB := Aside0.mk hb; clear hb))
                           refine Cu.handed kj72 (by have := HK1.out; have := HJ1.out; have := HJ12.out; have := HJ24.out; have := HJ47.out; have := HJ55.out; have := HJ67.out; have := HJ72.out; omega) (by assumption) ?_ (by kernel_rfl) (by kernel_rfl)
                           try dsimp only [Cu.pick, Cu.nth]
                           exact ⟨(wrap64 (x3_1 + 1)), Sq.e, H', ⟨by have := HK1.out; have := HJ1.out; have := HJ12.out; have := HJ24.out; have := HJ47.out; have := HJ55.out; have := HJ67.out; have := HJ72.out; omega⟩, ⟨Sq.w HB.out⟩⟩
                          ·replace c89 := Bool.eq_false_iff.mpr c89
                           subst c89
                           have H1 : (some false) = some r := by rw [if_neg (show ¬ (false = true) by decide)] at H; exact H
                           clear H
                           have H := H1
                           clear H1
                           exact absurd ((Option.some.inj H).trans hrt_.out) (by simp)
                         ·replace c87 := Bool.eq_false_iff.mpr c87
                          subst c87
                          have H1 : (some false) = some r := by rw [if_neg (show ¬ (false = true) by decide)] at H; exact H
                          clear H
                          have H := H1
                          clear H1
                          exact absurd ((Option.some.inj H).trans hrt_.out) (by simp)
                        ·rw [if_neg c85] at H
                         have c85b0 : (t228 == x17_72) = false := beq_eq_false_iff_ne.mpr c85
                         have c85b1 : (t228 != x17_72) = true := bne_iff_ne.mpr c85
                         exact absurd ((Option.some.inj H).trans hrt_.out) (by simp)
                       ·rw [if_neg c84] at H
                        have c84b0 : (t232 == x5_72) = false := beq_eq_false_iff_ne.mpr c84
                        have c84b1 : (t232 != x5_72) = true := bne_iff_ne.mpr c84
                        exact absurd ((Option.some.inj H).trans hrt_.out) (by simp)
       ·rw [if_neg c6] at H
        exact absurd H (by simp)
      ·rw [if_neg c5] at H
       exact absurd H (by simp)
     ·replace c4 := Bool.eq_false_iff.mpr c4
      subst c4
      have H1 : ((gimballaw30_wakes.f).bind fun t192 => (some t192)) = some r := by rw [if_neg (show ¬ (false = true) by decide)] at H; exact H
      clear H
      have H := H1
      clear H1
      replace H := Option.bind_eq_some_iff.mp H
      obtain ⟨t192, A1010, H⟩ := H
      replace H : (some t192) = some r := H
      have A101 := Aside0.mk A1010
      clear A1010
      obtain rfl := Option.some.inj H
      go_wp2_with (first | ((with_reducible refine gate_callee (f := 15) rfl ?_); refine goesL_ (some 164) rfl rfl Try.func15 (by kernel_rfl) rfl #[] rfl Sq.m ?_; (with_reducible refine (gimballaw30_wakes.calls  t192 _ A101.out).mono ?_); rintro e w' ⟨rfl, ⟨nd, rfl⟩⟩; refine ⟨_, rfl, ?_⟩))
      go_ret
      exact ⟨by first | rfl | (simp [errW_none, errW_some] <;> rfl) | (simp [*, errW_none, errW_some] <;> rfl), Sq.w HB.out⟩

end Go.Proofs.Ytbleapgklbohcaa.PLogExact
