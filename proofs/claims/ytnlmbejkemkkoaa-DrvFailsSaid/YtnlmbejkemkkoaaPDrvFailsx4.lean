import Derived.Test.YtnlmbejkemkkoaaCut
import Derived.Test.YtnlmbejkemkkoaaPDrvFailsx0
import Derived.Test.YtnlmbejkemkkoaaPDrvFailsx1
import Derived.Test.YtnlmbejkemkkoaaPDrvFailsx2
import Derived.Test.YtnlmbejkemkkoaaPDrvFailsx3
namespace Go.Proofs.Ytnlmbejkemkkoaa.PDrvFails
open Go.RowKit Go.Proofs.YtnlmbejkemkkoaaW.PrintWords Go.Proofs.YtnlmbejkemkkoaaW.PrintLast Go.Proofs.YtnlmbejkemkkoaaW.PrintMore
attribute [local go_sem] max2_int min2_int max_two min_two max_three min_three max_four min_four   -- for this text's walks alone
set_option linter.unusedVariables false
set_option linter.unusedSimpArgs false

/-! ### gimballaw9_DrvFails: function 5 -/
mutual
def gimballaw9_DrvFails.l0 : Nat → Int → Bool → Int → List (S29) → Int → Int → Bool → Int → Int → Int → Bool → Int → Int → Option (Bool)
 | 0, _, _, _, _, _, _, _, _, _, _, _, _, _ => none
 | k + 1, x5, x6, x7, x161000, x172000, x172001, x172002, x172003, x172004, x172005, x172006, x172007, x172008 => if x7 < (x161000.length : Int) then (gimballaw9_DrvFails.j1 k x5 x6 x7 (decide (x7 < 30)) x161000 x172000 x172001 x172002 x172003 x172004 x172005 x172006 x172007 x172008) else (gimballaw9_DrvFails.j1 k x5 x6 x7 false x161000 x172000 x172001 x172002 x172003 x172004 x172005 x172006 x172007 x172008)
def gimballaw9_DrvFails.j1 : Nat → Int → Bool → Int → Bool → List (S29) → Int → Int → Bool → Int → Int → Int → Bool → Int → Int → Option (Bool)
 | 0, _, _, _, _, _, _, _, _, _, _, _, _, _, _ => none
 | k + 1, x5, x6, x7, x35, x161000, x172000, x172001, x172002, x172003, x172004, x172005, x172006, x172007, x172008 => if x35 = true then (if 0 ≤ x7 then (if x7 < (x161000.length : Int) then (if (((rd_T29 x161000 x7).f3.f1).length : Int) > 400 then (some true) else ((gimballaw0_Within.f ((rd_T29 x161000 x7).f2) 4).bind fun t176 => (if t176 = 0 then ((gimballaw0_Within.f ((rd_T29 x161000 x7).f2) 250).bind fun t177 => ((drv_Set.f k x172000 x172001 x172002 x172003 x172004 x172005 x172006 x172007 x172008 ((rd_T29 x161000 x7).f1) (wrap64 (1 + t177))).bind fun bt178 => ((gimballaw9_num.f bt178.2.2.2.2.2.2.2.2.2).bind fun t189 => (if t189 = 0 then (if bt178.2.2.2.2.1 = x172004 then (gimballaw9_DrvFails.j2 k x5 x6 x7 x161000 bt178.1 bt178.2.1 bt178.2.2.1 bt178.2.2.2.1 bt178.2.2.2.2.1 bt178.2.2.2.2.2.1 bt178.2.2.2.2.2.2.1 bt178.2.2.2.2.2.2.2.1 bt178.2.2.2.2.2.2.2.2.1 ((rd_T29 x161000 x7).f0.f0) ((rd_T29 x161000 x7).f0.f1) ((rd_T29 x161000 x7).f0.f2) ((rd_T29 x161000 x7).f0.f3) ((rd_T29 x161000 x7).f0.f4) ((rd_T29 x161000 x7).f0.f5) ((rd_T29 x161000 x7).f0.f6) ((rd_T29 x161000 x7).f0.f7) ((rd_T29 x161000 x7).f0.f8) ((rd_T29 x161000 x7).f1) ((rd_T29 x161000 x7).f2) ((rd_T29 x161000 x7).f3.f0) ((rd_T29 x161000 x7).f3.f1)) else (gimballaw9_DrvFails.j2 k 0 x6 x7 x161000 bt178.1 bt178.2.1 bt178.2.2.1 bt178.2.2.2.1 bt178.2.2.2.2.1 bt178.2.2.2.2.2.1 bt178.2.2.2.2.2.2.1 bt178.2.2.2.2.2.2.2.1 bt178.2.2.2.2.2.2.2.2.1 ((rd_T29 x161000 x7).f0.f0) ((rd_T29 x161000 x7).f0.f1) ((rd_T29 x161000 x7).f0.f2) ((rd_T29 x161000 x7).f0.f3) ((rd_T29 x161000 x7).f0.f4) ((rd_T29 x161000 x7).f0.f5) ((rd_T29 x161000 x7).f0.f6) ((rd_T29 x161000 x7).f0.f7) ((rd_T29 x161000 x7).f0.f8) ((rd_T29 x161000 x7).f1) ((rd_T29 x161000 x7).f2) ((rd_T29 x161000 x7).f3.f0) ((rd_T29 x161000 x7).f3.f1))) else (some false))))) else (gimballaw9_DrvFails.j2 k x5 x6 x7 x161000 x172000 x172001 x172002 x172003 x172004 x172005 x172006 x172007 x172008 ((rd_T29 x161000 x7).f0.f0) ((rd_T29 x161000 x7).f0.f1) ((rd_T29 x161000 x7).f0.f2) ((rd_T29 x161000 x7).f0.f3) ((rd_T29 x161000 x7).f0.f4) ((rd_T29 x161000 x7).f0.f5) ((rd_T29 x161000 x7).f0.f6) ((rd_T29 x161000 x7).f0.f7) ((rd_T29 x161000 x7).f0.f8) ((rd_T29 x161000 x7).f1) ((rd_T29 x161000 x7).f2) ((rd_T29 x161000 x7).f3.f0) ((rd_T29 x161000 x7).f3.f1))))) else (none)) else (none)) else ((gimballaw9_wakes.f).bind fun t173 => (some t173))
def gimballaw9_DrvFails.j2 : Nat → Int → Bool → Int → List (S29) → Int → Int → Bool → Int → Int → Int → Bool → Int → Int → Int → Int → Bool → Int → Int → Int → Bool → Int → Int → Bool → Int → Int → List Int → Option (Bool)
 | 0, _, _, _, _, _, _, _, _, _, _, _, _, _, _, _, _, _, _, _, _, _, _, _, _, _, _ => none
 | k + 1, x5, x6, x7, x161000, x172000, x172001, x172002, x172003, x172004, x172005, x172006, x172007, x172008, x176000, x176001, x176002, x176003, x176004, x176005, x176006, x176007, x176008, x176009, x176010, x176011, x176012 => (drv_Next.f x172000 x172001 x172002 x172003 x172004 x172005 x172006 x172007 x172008).bind fun bt190 => ((gimballaw9_num.f bt190.2.2.2.2.2).bind fun t199 => (if t199 = 0 then (if x172004 = 0 then (gimballaw9_DrvFails.j3 k x5 x6 x7 bt190.2.2.2.2.1 (bt190.2.2.2.2.1 == true) x161000 x172000 x172001 x172002 x172003 x172004 x172005 x172006 x172007 x172008 x176000 x176001 x176002 x176003 x176004 x176005 x176006 x176007 x176008 x176009 x176010 x176011 x176012 bt190.1 bt190.2.1 bt190.2.2.1 bt190.2.2.2.1) else (gimballaw9_DrvFails.j3 k x5 x6 x7 bt190.2.2.2.2.1 (bt190.2.2.2.2.1 == (x172004 == 8)) x161000 x172000 x172001 x172002 x172003 x172004 x172005 x172006 x172007 x172008 x176000 x176001 x176002 x176003 x176004 x176005 x176006 x176007 x176008 x176009 x176010 x176011 x176012 bt190.1 bt190.2.1 bt190.2.2.1 bt190.2.2.2.1)) else (gimballaw9_DrvFails.j3 k x5 x6 x7 bt190.2.2.2.2.1 true x161000 x172000 x172001 x172002 x172003 x172004 x172005 x172006 x172007 x172008 x176000 x176001 x176002 x176003 x176004 x176005 x176006 x176007 x176008 x176009 x176010 x176011 x176012 bt190.1 bt190.2.1 bt190.2.2.1 bt190.2.2.2.1)))
def gimballaw9_DrvFails.j3 : Nat → Int → Bool → Int → Bool → Bool → List (S29) → Int → Int → Bool → Int → Int → Int → Bool → Int → Int → Int → Int → Bool → Int → Int → Int → Bool → Int → Int → Bool → Int → Int → List Int → Int → Int → List Int → Int → Option (Bool)
 | 0, _, _, _, _, _, _, _, _, _, _, _, _, _, _, _, _, _, _, _, _, _, _, _, _, _, _, _, _, _, _, _, _ => none
 | k + 1, x5, x6, x7, x13, x93, x161000, x172000, x172001, x172002, x172003, x172004, x172005, x172006, x172007, x172008, x176000, x176001, x176002, x176003, x176004, x176005, x176006, x176007, x176008, x176009, x176010, x176011, x176012, x199000, x199001, x199002, x199003 => if x93 = true then (some false) else (if x13 = true then (if x176011 = 1 then (if (x176012.length : Int) = x199003 then (if x172004 = 1 then (if 0 < (x176012.length : Int) then (if (rd x176012 0) = 49 then (if x172004 = 4 then (gimballaw9_DrvFails.j4 k x5 x6 x7 (decide ((rd x176012 0) ≤ 16)) x161000 x172000 x172001 x172002 x172003 x172004 x172005 x172006 x172007 x172008 x176000 x176001 x176002 x176003 x176004 x176005 x176006 x176007 x176008 x176009 x176010 x176011 x176012) else (gimballaw9_DrvFails.j4 k x5 x6 x7 true x161000 x172000 x172001 x172002 x172003 x172004 x172005 x172006 x172007 x172008 x176000 x176001 x176002 x176003 x176004 x176005 x176006 x176007 x176008 x176009 x176010 x176011 x176012)) else (gimballaw9_DrvFails.j4 k x5 x6 x7 false x161000 x172000 x172001 x172002 x172003 x172004 x172005 x172006 x172007 x172008 x176000 x176001 x176002 x176003 x176004 x176005 x176006 x176007 x176008 x176009 x176010 x176011 x176012)) else (none)) else (if x172004 = 4 then (if 0 < (x176012.length : Int) then (gimballaw9_DrvFails.j4 k x5 x6 x7 (decide ((rd x176012 0) ≤ 16)) x161000 x172000 x172001 x172002 x172003 x172004 x172005 x172006 x172007 x172008 x176000 x176001 x176002 x176003 x176004 x176005 x176006 x176007 x176008 x176009 x176010 x176011 x176012) else (none)) else (gimballaw9_DrvFails.j4 k x5 x6 x7 true x161000 x172000 x172001 x172002 x172003 x172004 x172005 x172006 x172007 x172008 x176000 x176001 x176002 x176003 x176004 x176005 x176006 x176007 x176008 x176009 x176010 x176011 x176012))) else (gimballaw9_DrvFails.j4 k x5 x6 x7 false x161000 x172000 x172001 x172002 x172003 x172004 x172005 x172006 x172007 x172008 x176000 x176001 x176002 x176003 x176004 x176005 x176006 x176007 x176008 x176009 x176010 x176011 x176012)) else (gimballaw9_DrvFails.j4 k x5 x6 x7 false x161000 x172000 x172001 x172002 x172003 x172004 x172005 x172006 x172007 x172008 x176000 x176001 x176002 x176003 x176004 x176005 x176006 x176007 x176008 x176009 x176010 x176011 x176012)) else (gimballaw9_DrvFails.l0 k x5 x6 (wrap64 (x7 + 1)) x161000 x172000 x172001 x172002 x172003 x172004 x172005 x172006 x172007 x172008))
def gimballaw9_DrvFails.j4 : Nat → Int → Bool → Int → Bool → List (S29) → Int → Int → Bool → Int → Int → Int → Bool → Int → Int → Int → Int → Bool → Int → Int → Int → Bool → Int → Int → Bool → Int → Int → List Int → Option (Bool)
 | 0, _, _, _, _, _, _, _, _, _, _, _, _, _, _, _, _, _, _, _, _, _, _, _, _, _, _, _ => none
 | k + 1, x5, x6, x7, x15, x161000, x172000, x172001, x172002, x172003, x172004, x172005, x172006, x172007, x172008, x176000, x176001, x176002, x176003, x176004, x176005, x176006, x176007, x176008, x176009, x176010, x176011, x176012 => (drv_Take.f k x172000 x172001 x172002 x172003 x172004 x172005 x172006 x172007 x172008 x176011 x176012).bind fun bt203 => ((gimballaw9_num.f bt203.2.2.2.2.2.2.2.2.2.2.2).bind fun t218 => (if t218 = 0 then (if x15 = true then (if x172004 = 7 then (if bt203.2.2.2.2.1 = 0 then (gimballaw9_DrvFails.j5 k 0 false x7 x15 bt203.2.2.2.2.2.2.2.2.2.2.1 x161000 x172000 x172001 x172002 x172003 x172004 x172005 x172006 x172007 x172008 bt203.1 bt203.2.1 bt203.2.2.1 bt203.2.2.2.1 bt203.2.2.2.2.1 bt203.2.2.2.2.2.1 bt203.2.2.2.2.2.2.1 bt203.2.2.2.2.2.2.2.1 bt203.2.2.2.2.2.2.2.2.1) else (if x172004 = 3 then (if bt203.2.2.2.2.1 = 4 then (gimballaw9_DrvFails.j5 k 0 false x7 x15 bt203.2.2.2.2.2.2.2.2.2.2.1 x161000 x172000 x172001 x172002 x172003 x172004 x172005 x172006 x172007 x172008 bt203.1 bt203.2.1 bt203.2.2.1 bt203.2.2.2.1 bt203.2.2.2.2.1 bt203.2.2.2.2.2.1 bt203.2.2.2.2.2.2.1 bt203.2.2.2.2.2.2.2.1 bt203.2.2.2.2.2.2.2.2.1) else (gimballaw9_DrvFails.j5 k 0 true x7 x15 bt203.2.2.2.2.2.2.2.2.2.2.1 x161000 x172000 x172001 x172002 x172003 x172004 x172005 x172006 x172007 x172008 bt203.1 bt203.2.1 bt203.2.2.1 bt203.2.2.2.1 bt203.2.2.2.2.1 bt203.2.2.2.2.2.1 bt203.2.2.2.2.2.2.1 bt203.2.2.2.2.2.2.2.1 bt203.2.2.2.2.2.2.2.2.1)) else (gimballaw9_DrvFails.j5 k 0 true x7 x15 bt203.2.2.2.2.2.2.2.2.2.2.1 x161000 x172000 x172001 x172002 x172003 x172004 x172005 x172006 x172007 x172008 bt203.1 bt203.2.1 bt203.2.2.1 bt203.2.2.2.1 bt203.2.2.2.2.1 bt203.2.2.2.2.2.1 bt203.2.2.2.2.2.2.1 bt203.2.2.2.2.2.2.2.1 bt203.2.2.2.2.2.2.2.2.1))) else (if bt203.2.2.2.2.1 = 0 then (gimballaw9_DrvFails.j5 k 0 false x7 x15 bt203.2.2.2.2.2.2.2.2.2.2.1 x161000 x172000 x172001 x172002 x172003 x172004 x172005 x172006 x172007 x172008 bt203.1 bt203.2.1 bt203.2.2.1 bt203.2.2.2.1 bt203.2.2.2.2.1 bt203.2.2.2.2.2.1 bt203.2.2.2.2.2.2.1 bt203.2.2.2.2.2.2.2.1 bt203.2.2.2.2.2.2.2.2.1) else (if x172004 = 3 then (if bt203.2.2.2.2.1 = 4 then (gimballaw9_DrvFails.j5 k 0 false x7 x15 bt203.2.2.2.2.2.2.2.2.2.2.1 x161000 x172000 x172001 x172002 x172003 x172004 x172005 x172006 x172007 x172008 bt203.1 bt203.2.1 bt203.2.2.1 bt203.2.2.2.1 bt203.2.2.2.2.1 bt203.2.2.2.2.2.1 bt203.2.2.2.2.2.2.1 bt203.2.2.2.2.2.2.2.1 bt203.2.2.2.2.2.2.2.2.1) else (gimballaw9_DrvFails.j5 k 0 x6 x7 x15 bt203.2.2.2.2.2.2.2.2.2.2.1 x161000 x172000 x172001 x172002 x172003 x172004 x172005 x172006 x172007 x172008 bt203.1 bt203.2.1 bt203.2.2.1 bt203.2.2.2.1 bt203.2.2.2.2.1 bt203.2.2.2.2.2.1 bt203.2.2.2.2.2.2.1 bt203.2.2.2.2.2.2.2.1 bt203.2.2.2.2.2.2.2.2.1)) else (gimballaw9_DrvFails.j5 k 0 x6 x7 x15 bt203.2.2.2.2.2.2.2.2.2.2.1 x161000 x172000 x172001 x172002 x172003 x172004 x172005 x172006 x172007 x172008 bt203.1 bt203.2.1 bt203.2.2.1 bt203.2.2.2.1 bt203.2.2.2.2.1 bt203.2.2.2.2.2.1 bt203.2.2.2.2.2.2.1 bt203.2.2.2.2.2.2.2.1 bt203.2.2.2.2.2.2.2.2.1)))) else (gimballaw9_DrvFails.j5 k (wrap64 (x5 + 1)) x6 x7 x15 bt203.2.2.2.2.2.2.2.2.2.2.1 x161000 x172000 x172001 x172002 x172003 x172004 x172005 x172006 x172007 x172008 bt203.1 bt203.2.1 bt203.2.2.1 bt203.2.2.2.1 bt203.2.2.2.2.1 bt203.2.2.2.2.2.1 bt203.2.2.2.2.2.2.1 bt203.2.2.2.2.2.2.2.1 bt203.2.2.2.2.2.2.2.2.1)) else (some false)))
def gimballaw9_DrvFails.j5 : Nat → Int → Bool → Int → Bool → Bool → List (S29) → Int → Int → Bool → Int → Int → Int → Bool → Int → Int → Int → Int → Bool → Int → Int → Int → Bool → Int → Int → Option (Bool)
 | 0, _, _, _, _, _, _, _, _, _, _, _, _, _, _, _, _, _, _, _, _, _, _, _, _ => none
 | k + 1, x5, x6, x7, x15, x18, x161000, x172000, x172001, x172002, x172003, x172004, x172005, x172006, x172007, x172008, x218000, x218001, x218002, x218003, x218004, x218005, x218006, x218007, x218008 => if (x18 != (x218004 == 8)) = true then (gimballaw9_DrvFails.j6 k x5 x6 x7 x15 true x161000 x172000 x172001 x172002 x172003 x172004 x172005 x172006 x172007 x172008 x218000 x218001 x218002 x218003 x218004 x218005 x218006 x218007 x218008) else (if x18 = true then (if x15 = true then (gimballaw9_DrvFails.j6 k x5 x6 x7 x15 true x161000 x172000 x172001 x172002 x172003 x172004 x172005 x172006 x172007 x172008 x218000 x218001 x218002 x218003 x218004 x218005 x218006 x218007 x218008) else (if x172004 = 7 then (gimballaw9_DrvFails.j6 k x5 x6 x7 x15 false x161000 x172000 x172001 x172002 x172003 x172004 x172005 x172006 x172007 x172008 x218000 x218001 x218002 x218003 x218004 x218005 x218006 x218007 x218008) else (if x5 < 3 then (gimballaw9_DrvFails.j6 k x5 x6 x7 x15 true x161000 x172000 x172001 x172002 x172003 x172004 x172005 x172006 x172007 x172008 x218000 x218001 x218002 x218003 x218004 x218005 x218006 x218007 x218008) else (gimballaw9_DrvFails.j6 k x5 x6 x7 x15 (!x6) x161000 x172000 x172001 x172002 x172003 x172004 x172005 x172006 x172007 x172008 x218000 x218001 x218002 x218003 x218004 x218005 x218006 x218007 x218008)))) else (gimballaw9_DrvFails.j6 k x5 x6 x7 x15 false x161000 x172000 x172001 x172002 x172003 x172004 x172005 x172006 x172007 x172008 x218000 x218001 x218002 x218003 x218004 x218005 x218006 x218007 x218008))
def gimballaw9_DrvFails.j6 : Nat → Int → Bool → Int → Bool → Bool → List (S29) → Int → Int → Bool → Int → Int → Int → Bool → Int → Int → Int → Int → Bool → Int → Int → Int → Bool → Int → Int → Option (Bool)
 | 0, _, _, _, _, _, _, _, _, _, _, _, _, _, _, _, _, _, _, _, _, _, _, _, _ => none
 | k + 1, x5, x6, x7, x15, x190, x161000, x172000, x172001, x172002, x172003, x172004, x172005, x172006, x172007, x172008, x218000, x218001, x218002, x218003, x218004, x218005, x218006, x218007, x218008 => if x190 = true then (some false) else (if x15 = true then (gimballaw9_DrvFails.l0 k x5 x6 (wrap64 (x7 + 1)) x161000 x218000 x218001 x218002 x218003 x218004 x218005 x218006 x218007 x218008) else (if x172004 = 7 then (gimballaw9_DrvFails.l0 k 0 x6 (wrap64 (x7 + 1)) x161000 x218000 x218001 x218002 x218003 x218004 x218005 x218006 x218007 x218008) else (if x5 = 3 then (gimballaw9_DrvFails.l0 k 0 x6 (wrap64 (x7 + 1)) x161000 x218000 x218001 x218002 x218003 x218004 x218005 x218006 x218007 x218008) else (gimballaw9_DrvFails.l0 k x5 x6 (wrap64 (x7 + 1)) x161000 x218000 x218001 x218002 x218003 x218004 x218005 x218006 x218007 x218008))))
end
def gimballaw9_DrvFails.f (k : Nat) (l0_0 : List (S29)) : Option (Bool) := (drv_New.f 16 49).bind fun bt161 => ((gimballaw9_num.f bt161.2.2.2.2.2.2.2.2.2).bind fun t172 => (if t172 = 0 then (gimballaw9_DrvFails.l0 k 0 false 0 l0_0 bt161.1 bt161.2.1 bt161.2.2.1 bt161.2.2.2.1 bt161.2.2.2.2.1 bt161.2.2.2.2.2.1 bt161.2.2.2.2.2.2.1 bt161.2.2.2.2.2.2.2.1 bt161.2.2.2.2.2.2.2.2.1) else (some false)))
theorem gimballaw9_DrvFails.mono_l : ∀ k, (∀ y0 y1 y2 y3 y4 y5 y6 y7 y8 y9 y10 y11 y12, LeO (gimballaw9_DrvFails.l0 k y0 y1 y2 y3 y4 y5 y6 y7 y8 y9 y10 y11 y12) (gimballaw9_DrvFails.l0 (k + 1) y0 y1 y2 y3 y4 y5 y6 y7 y8 y9 y10 y11 y12)) ∧ (∀ y0 y1 y2 y3 y4 y5 y6 y7 y8 y9 y10 y11 y12 y13, LeO (gimballaw9_DrvFails.j1 k y0 y1 y2 y3 y4 y5 y6 y7 y8 y9 y10 y11 y12 y13) (gimballaw9_DrvFails.j1 (k + 1) y0 y1 y2 y3 y4 y5 y6 y7 y8 y9 y10 y11 y12 y13)) ∧ (∀ y0 y1 y2 y3 y4 y5 y6 y7 y8 y9 y10 y11 y12 y13 y14 y15 y16 y17 y18 y19 y20 y21 y22 y23 y24 y25, LeO (gimballaw9_DrvFails.j2 k y0 y1 y2 y3 y4 y5 y6 y7 y8 y9 y10 y11 y12 y13 y14 y15 y16 y17 y18 y19 y20 y21 y22 y23 y24 y25) (gimballaw9_DrvFails.j2 (k + 1) y0 y1 y2 y3 y4 y5 y6 y7 y8 y9 y10 y11 y12 y13 y14 y15 y16 y17 y18 y19 y20 y21 y22 y23 y24 y25)) ∧ (∀ y0 y1 y2 y3 y4 y5 y6 y7 y8 y9 y10 y11 y12 y13 y14 y15 y16 y17 y18 y19 y20 y21 y22 y23 y24 y25 y26 y27 y28 y29 y30 y31, LeO (gimballaw9_DrvFails.j3 k y0 y1 y2 y3 y4 y5 y6 y7 y8 y9 y10 y11 y12 y13 y14 y15 y16 y17 y18 y19 y20 y21 y22 y23 y24 y25 y26 y27 y28 y29 y30 y31) (gimballaw9_DrvFails.j3 (k + 1) y0 y1 y2 y3 y4 y5 y6 y7 y8 y9 y10 y11 y12 y13 y14 y15 y16 y17 y18 y19 y20 y21 y22 y23 y24 y25 y26 y27 y28 y29 y30 y31)) ∧ (∀ y0 y1 y2 y3 y4 y5 y6 y7 y8 y9 y10 y11 y12 y13 y14 y15 y16 y17 y18 y19 y20 y21 y22 y23 y24 y25 y26, LeO (gimballaw9_DrvFails.j4 k y0 y1 y2 y3 y4 y5 y6 y7 y8 y9 y10 y11 y12 y13 y14 y15 y16 y17 y18 y19 y20 y21 y22 y23 y24 y25 y26) (gimballaw9_DrvFails.j4 (k + 1) y0 y1 y2 y3 y4 y5 y6 y7 y8 y9 y10 y11 y12 y13 y14 y15 y16 y17 y18 y19 y20 y21 y22 y23 y24 y25 y26)) ∧ (∀ y0 y1 y2 y3 y4 y5 y6 y7 y8 y9 y10 y11 y12 y13 y14 y15 y16 y17 y18 y19 y20 y21 y22 y23, LeO (gimballaw9_DrvFails.j5 k y0 y1 y2 y3 y4 y5 y6 y7 y8 y9 y10 y11 y12 y13 y14 y15 y16 y17 y18 y19 y20 y21 y22 y23) (gimballaw9_DrvFails.j5 (k + 1) y0 y1 y2 y3 y4 y5 y6 y7 y8 y9 y10 y11 y12 y13 y14 y15 y16 y17 y18 y19 y20 y21 y22 y23)) ∧ (∀ y0 y1 y2 y3 y4 y5 y6 y7 y8 y9 y10 y11 y12 y13 y14 y15 y16 y17 y18 y19 y20 y21 y22 y23, LeO (gimballaw9_DrvFails.j6 k y0 y1 y2 y3 y4 y5 y6 y7 y8 y9 y10 y11 y12 y13 y14 y15 y16 y17 y18 y19 y20 y21 y22 y23) (gimballaw9_DrvFails.j6 (k + 1) y0 y1 y2 y3 y4 y5 y6 y7 y8 y9 y10 y11 y12 y13 y14 y15 y16 y17 y18 y19 y20 y21 y22 y23))
 | 0 => ⟨fun _ _ _ _ _ _ _ _ _ _ _ _ _ r h => by simp [gimballaw9_DrvFails.l0] at h, fun _ _ _ _ _ _ _ _ _ _ _ _ _ _ r h => by simp [gimballaw9_DrvFails.j1] at h, fun _ _ _ _ _ _ _ _ _ _ _ _ _ _ _ _ _ _ _ _ _ _ _ _ _ _ r h => by simp [gimballaw9_DrvFails.j2] at h, fun _ _ _ _ _ _ _ _ _ _ _ _ _ _ _ _ _ _ _ _ _ _ _ _ _ _ _ _ _ _ _ _ r h => by simp [gimballaw9_DrvFails.j3] at h, fun _ _ _ _ _ _ _ _ _ _ _ _ _ _ _ _ _ _ _ _ _ _ _ _ _ _ _ r h => by simp [gimballaw9_DrvFails.j4] at h, fun _ _ _ _ _ _ _ _ _ _ _ _ _ _ _ _ _ _ _ _ _ _ _ _ r h => by simp [gimballaw9_DrvFails.j5] at h, fun _ _ _ _ _ _ _ _ _ _ _ _ _ _ _ _ _ _ _ _ _ _ _ _ r h => by simp [gimballaw9_DrvFails.j6] at h⟩
 | k + 1 => by
  obtain ⟨ih0, ih1, ih2, ih3, ih4, ih5, ih6⟩ := gimballaw9_DrvFails.mono_l k
  refine ⟨?_, ?_, ?_, ?_, ?_, ?_, ?_⟩
  ·intro y0 y1 y2 y3 y4 y5 y6 y7 y8 y9 y10 y11 y12
   unfold gimballaw9_DrvFails.l0
   repeat' first
   | (with_reducible exact ih0 _ _ _ _ _ _ _ _ _ _ _ _ _)
   | (with_reducible exact ih1 _ _ _ _ _ _ _ _ _ _ _ _ _ _)
   | (with_reducible exact ih2 _ _ _ _ _ _ _ _ _ _ _ _ _ _ _ _ _ _ _ _ _ _ _ _ _ _)
   | (with_reducible exact ih3 _ _ _ _ _ _ _ _ _ _ _ _ _ _ _ _ _ _ _ _ _ _ _ _ _ _ _ _ _ _ _ _)
   | (with_reducible exact ih4 _ _ _ _ _ _ _ _ _ _ _ _ _ _ _ _ _ _ _ _ _ _ _ _ _ _ _)
   | (with_reducible exact ih5 _ _ _ _ _ _ _ _ _ _ _ _ _ _ _ _ _ _ _ _ _ _ _ _)
   | (with_reducible exact ih6 _ _ _ _ _ _ _ _ _ _ _ _ _ _ _ _ _ _ _ _ _ _ _ _)
   | (with_reducible exact drv_Set.mono _ _ _ _ _ _ _ _ _ _ _ _)
   | (with_reducible exact drv_Take.mono _ _ _ _ _ _ _ _ _ _ _ _)
   | (with_reducible exact LeO.refl _)
   | (with_reducible exact LeO.none _)
   | (with_reducible refine LeO.ite ?_ ?_)
   | (with_reducible refine LeO.bind ?_ (fun _ => ?_))
   | exact ih0 _ _ _ _ _ _ _ _ _ _ _ _ _
   | exact ih1 _ _ _ _ _ _ _ _ _ _ _ _ _ _
   | exact ih2 _ _ _ _ _ _ _ _ _ _ _ _ _ _ _ _ _ _ _ _ _ _ _ _ _ _
   | exact ih3 _ _ _ _ _ _ _ _ _ _ _ _ _ _ _ _ _ _ _ _ _ _ _ _ _ _ _ _ _ _ _ _
   | exact ih4 _ _ _ _ _ _ _ _ _ _ _ _ _ _ _ _ _ _ _ _ _ _ _ _ _ _ _
   | exact ih5 _ _ _ _ _ _ _ _ _ _ _ _ _ _ _ _ _ _ _ _ _ _ _ _
   | exact ih6 _ _ _ _ _ _ _ _ _ _ _ _ _ _ _ _ _ _ _ _ _ _ _ _
   | exact drv_Set.mono _ _ _ _ _ _ _ _ _ _ _ _
   | exact drv_Take.mono _ _ _ _ _ _ _ _ _ _ _ _
   | exact LeO.none _
   | refine LeO.ite ?_ ?_
   | refine LeO.bind ?_ (fun _ => ?_)
  ·intro y0 y1 y2 y3 y4 y5 y6 y7 y8 y9 y10 y11 y12 y13
   unfold gimballaw9_DrvFails.j1
   repeat' first
   | (with_reducible exact ih0 _ _ _ _ _ _ _ _ _ _ _ _ _)
   | (with_reducible exact ih1 _ _ _ _ _ _ _ _ _ _ _ _ _ _)
   | (with_reducible exact ih2 _ _ _ _ _ _ _ _ _ _ _ _ _ _ _ _ _ _ _ _ _ _ _ _ _ _)
   | (with_reducible exact ih3 _ _ _ _ _ _ _ _ _ _ _ _ _ _ _ _ _ _ _ _ _ _ _ _ _ _ _ _ _ _ _ _)
   | (with_reducible exact ih4 _ _ _ _ _ _ _ _ _ _ _ _ _ _ _ _ _ _ _ _ _ _ _ _ _ _ _)
   | (with_reducible exact ih5 _ _ _ _ _ _ _ _ _ _ _ _ _ _ _ _ _ _ _ _ _ _ _ _)
   | (with_reducible exact ih6 _ _ _ _ _ _ _ _ _ _ _ _ _ _ _ _ _ _ _ _ _ _ _ _)
   | (with_reducible exact drv_Set.mono _ _ _ _ _ _ _ _ _ _ _ _)
   | (with_reducible exact drv_Take.mono _ _ _ _ _ _ _ _ _ _ _ _)
   | (with_reducible exact LeO.refl _)
   | (with_reducible exact LeO.none _)
   | (with_reducible refine LeO.ite ?_ ?_)
   | (with_reducible refine LeO.bind ?_ (fun _ => ?_))
   | exact ih0 _ _ _ _ _ _ _ _ _ _ _ _ _
   | exact ih1 _ _ _ _ _ _ _ _ _ _ _ _ _ _
   | exact ih2 _ _ _ _ _ _ _ _ _ _ _ _ _ _ _ _ _ _ _ _ _ _ _ _ _ _
   | exact ih3 _ _ _ _ _ _ _ _ _ _ _ _ _ _ _ _ _ _ _ _ _ _ _ _ _ _ _ _ _ _ _ _
   | exact ih4 _ _ _ _ _ _ _ _ _ _ _ _ _ _ _ _ _ _ _ _ _ _ _ _ _ _ _
   | exact ih5 _ _ _ _ _ _ _ _ _ _ _ _ _ _ _ _ _ _ _ _ _ _ _ _
   | exact ih6 _ _ _ _ _ _ _ _ _ _ _ _ _ _ _ _ _ _ _ _ _ _ _ _
   | exact drv_Set.mono _ _ _ _ _ _ _ _ _ _ _ _
   | exact drv_Take.mono _ _ _ _ _ _ _ _ _ _ _ _
   | exact LeO.none _
   | refine LeO.ite ?_ ?_
   | refine LeO.bind ?_ (fun _ => ?_)
  ·intro y0 y1 y2 y3 y4 y5 y6 y7 y8 y9 y10 y11 y12 y13 y14 y15 y16 y17 y18 y19 y20 y21 y22 y23 y24 y25
   unfold gimballaw9_DrvFails.j2
   repeat' first
   | (with_reducible exact ih0 _ _ _ _ _ _ _ _ _ _ _ _ _)
   | (with_reducible exact ih1 _ _ _ _ _ _ _ _ _ _ _ _ _ _)
   | (with_reducible exact ih2 _ _ _ _ _ _ _ _ _ _ _ _ _ _ _ _ _ _ _ _ _ _ _ _ _ _)
   | (with_reducible exact ih3 _ _ _ _ _ _ _ _ _ _ _ _ _ _ _ _ _ _ _ _ _ _ _ _ _ _ _ _ _ _ _ _)
   | (with_reducible exact ih4 _ _ _ _ _ _ _ _ _ _ _ _ _ _ _ _ _ _ _ _ _ _ _ _ _ _ _)
   | (with_reducible exact ih5 _ _ _ _ _ _ _ _ _ _ _ _ _ _ _ _ _ _ _ _ _ _ _ _)
   | (with_reducible exact ih6 _ _ _ _ _ _ _ _ _ _ _ _ _ _ _ _ _ _ _ _ _ _ _ _)
   | (with_reducible exact drv_Set.mono _ _ _ _ _ _ _ _ _ _ _ _)
   | (with_reducible exact drv_Take.mono _ _ _ _ _ _ _ _ _ _ _ _)
   | (with_reducible exact LeO.refl _)
   | (with_reducible exact LeO.none _)
   | (with_reducible refine LeO.ite ?_ ?_)
   | (with_reducible refine LeO.bind ?_ (fun _ => ?_))
   | exact ih0 _ _ _ _ _ _ _ _ _ _ _ _ _
   | exact ih1 _ _ _ _ _ _ _ _ _ _ _ _ _ _
   | exact ih2 _ _ _ _ _ _ _ _ _ _ _ _ _ _ _ _ _ _ _ _ _ _ _ _ _ _
   | exact ih3 _ _ _ _ _ _ _ _ _ _ _ _ _ _ _ _ _ _ _ _ _ _ _ _ _ _ _ _ _ _ _ _
   | exact ih4 _ _ _ _ _ _ _ _ _ _ _ _ _ _ _ _ _ _ _ _ _ _ _ _ _ _ _
   | exact ih5 _ _ _ _ _ _ _ _ _ _ _ _ _ _ _ _ _ _ _ _ _ _ _ _
   | exact ih6 _ _ _ _ _ _ _ _ _ _ _ _ _ _ _ _ _ _ _ _ _ _ _ _
   | exact drv_Set.mono _ _ _ _ _ _ _ _ _ _ _ _
   | exact drv_Take.mono _ _ _ _ _ _ _ _ _ _ _ _
   | exact LeO.none _
   | refine LeO.ite ?_ ?_
   | refine LeO.bind ?_ (fun _ => ?_)
  ·intro y0 y1 y2 y3 y4 y5 y6 y7 y8 y9 y10 y11 y12 y13 y14 y15 y16 y17 y18 y19 y20 y21 y22 y23 y24 y25 y26 y27 y28 y29 y30 y31
   unfold gimballaw9_DrvFails.j3
   repeat' first
   | (with_reducible exact ih0 _ _ _ _ _ _ _ _ _ _ _ _ _)
   | (with_reducible exact ih1 _ _ _ _ _ _ _ _ _ _ _ _ _ _)
   | (with_reducible exact ih2 _ _ _ _ _ _ _ _ _ _ _ _ _ _ _ _ _ _ _ _ _ _ _ _ _ _)
   | (with_reducible exact ih3 _ _ _ _ _ _ _ _ _ _ _ _ _ _ _ _ _ _ _ _ _ _ _ _ _ _ _ _ _ _ _ _)
   | (with_reducible exact ih4 _ _ _ _ _ _ _ _ _ _ _ _ _ _ _ _ _ _ _ _ _ _ _ _ _ _ _)
   | (with_reducible exact ih5 _ _ _ _ _ _ _ _ _ _ _ _ _ _ _ _ _ _ _ _ _ _ _ _)
   | (with_reducible exact ih6 _ _ _ _ _ _ _ _ _ _ _ _ _ _ _ _ _ _ _ _ _ _ _ _)
   | (with_reducible exact drv_Set.mono _ _ _ _ _ _ _ _ _ _ _ _)
   | (with_reducible exact drv_Take.mono _ _ _ _ _ _ _ _ _ _ _ _)
   | (with_reducible exact LeO.refl _)
   | (with_reducible exact LeO.none _)
   | (with_reducible refine LeO.ite ?_ ?_)
   | (with_reducible refine LeO.bind ?_ (fun _ => ?_))
   | exact ih0 _ _ _ _ _ _ _ _ _ _ _ _ _
   | exact ih1 _ _ _ _ _ _ _ _ _ _ _ _ _ _
   | exact ih2 _ _ _ _ _ _ _ _ _ _ _ _ _ _ _ _ _ _ _ _ _ _ _ _ _ _
   | exact ih3 _ _ _ _ _ _ _ _ _ _ _ _ _ _ _ _ _ _ _ _ _ _ _ _ _ _ _ _ _ _ _ _
   | exact ih4 _ _ _ _ _ _ _ _ _ _ _ _ _ _ _ _ _ _ _ _ _ _ _ _ _ _ _
   | exact ih5 _ _ _ _ _ _ _ _ _ _ _ _ _ _ _ _ _ _ _ _ _ _ _ _
   | exact ih6 _ _ _ _ _ _ _ _ _ _ _ _ _ _ _ _ _ _ _ _ _ _ _ _
   | exact drv_Set.mono _ _ _ _ _ _ _ _ _ _ _ _
   | exact drv_Take.mono _ _ _ _ _ _ _ _ _ _ _ _
   | exact LeO.none _
   | refine LeO.ite ?_ ?_
   | refine LeO.bind ?_ (fun _ => ?_)
  ·intro y0 y1 y2 y3 y4 y5 y6 y7 y8 y9 y10 y11 y12 y13 y14 y15 y16 y17 y18 y19 y20 y21 y22 y23 y24 y25 y26
   unfold gimballaw9_DrvFails.j4
   repeat' first
   | (with_reducible exact ih0 _ _ _ _ _ _ _ _ _ _ _ _ _)
   | (with_reducible exact ih1 _ _ _ _ _ _ _ _ _ _ _ _ _ _)
   | (with_reducible exact ih2 _ _ _ _ _ _ _ _ _ _ _ _ _ _ _ _ _ _ _ _ _ _ _ _ _ _)
   | (with_reducible exact ih3 _ _ _ _ _ _ _ _ _ _ _ _ _ _ _ _ _ _ _ _ _ _ _ _ _ _ _ _ _ _ _ _)
   | (with_reducible exact ih4 _ _ _ _ _ _ _ _ _ _ _ _ _ _ _ _ _ _ _ _ _ _ _ _ _ _ _)
   | (with_reducible exact ih5 _ _ _ _ _ _ _ _ _ _ _ _ _ _ _ _ _ _ _ _ _ _ _ _)
   | (with_reducible exact ih6 _ _ _ _ _ _ _ _ _ _ _ _ _ _ _ _ _ _ _ _ _ _ _ _)
   | (with_reducible exact drv_Set.mono _ _ _ _ _ _ _ _ _ _ _ _)
   | (with_reducible exact drv_Take.mono _ _ _ _ _ _ _ _ _ _ _ _)
   | (with_reducible exact LeO.refl _)
   | (with_reducible exact LeO.none _)
   | (with_reducible refine LeO.ite ?_ ?_)
   | (with_reducible refine LeO.bind ?_ (fun _ => ?_))
   | exact ih0 _ _ _ _ _ _ _ _ _ _ _ _ _
   | exact ih1 _ _ _ _ _ _ _ _ _ _ _ _ _ _
   | exact ih2 _ _ _ _ _ _ _ _ _ _ _ _ _ _ _ _ _ _ _ _ _ _ _ _ _ _
   | exact ih3 _ _ _ _ _ _ _ _ _ _ _ _ _ _ _ _ _ _ _ _ _ _ _ _ _ _ _ _ _ _ _ _
   | exact ih4 _ _ _ _ _ _ _ _ _ _ _ _ _ _ _ _ _ _ _ _ _ _ _ _ _ _ _
   | exact ih5 _ _ _ _ _ _ _ _ _ _ _ _ _ _ _ _ _ _ _ _ _ _ _ _
   | exact ih6 _ _ _ _ _ _ _ _ _ _ _ _ _ _ _ _ _ _ _ _ _ _ _ _
   | exact drv_Set.mono _ _ _ _ _ _ _ _ _ _ _ _
   | exact drv_Take.mono _ _ _ _ _ _ _ _ _ _ _ _
   | exact LeO.none _
   | refine LeO.ite ?_ ?_
   | refine LeO.bind ?_ (fun _ => ?_)
  ·intro y0 y1 y2 y3 y4 y5 y6 y7 y8 y9 y10 y11 y12 y13 y14 y15 y16 y17 y18 y19 y20 y21 y22 y23
   unfold gimballaw9_DrvFails.j5
   repeat' first
   | (with_reducible exact ih0 _ _ _ _ _ _ _ _ _ _ _ _ _)
   | (with_reducible exact ih1 _ _ _ _ _ _ _ _ _ _ _ _ _ _)
   | (with_reducible exact ih2 _ _ _ _ _ _ _ _ _ _ _ _ _ _ _ _ _ _ _ _ _ _ _ _ _ _)
   | (with_reducible exact ih3 _ _ _ _ _ _ _ _ _ _ _ _ _ _ _ _ _ _ _ _ _ _ _ _ _ _ _ _ _ _ _ _)
   | (with_reducible exact ih4 _ _ _ _ _ _ _ _ _ _ _ _ _ _ _ _ _ _ _ _ _ _ _ _ _ _ _)
   | (with_reducible exact ih5 _ _ _ _ _ _ _ _ _ _ _ _ _ _ _ _ _ _ _ _ _ _ _ _)
   | (with_reducible exact ih6 _ _ _ _ _ _ _ _ _ _ _ _ _ _ _ _ _ _ _ _ _ _ _ _)
   | (with_reducible exact drv_Set.mono _ _ _ _ _ _ _ _ _ _ _ _)
   | (with_reducible exact drv_Take.mono _ _ _ _ _ _ _ _ _ _ _ _)
   | (with_reducible exact LeO.refl _)
   | (with_reducible exact LeO.none _)
   | (with_reducible refine LeO.ite ?_ ?_)
   | (with_reducible refine LeO.bind ?_ (fun _ => ?_))
   | exact ih0 _ _ _ _ _ _ _ _ _ _ _ _ _
   | exact ih1 _ _ _ _ _ _ _ _ _ _ _ _ _ _
   | exact ih2 _ _ _ _ _ _ _ _ _ _ _ _ _ _ _ _ _ _ _ _ _ _ _ _ _ _
   | exact ih3 _ _ _ _ _ _ _ _ _ _ _ _ _ _ _ _ _ _ _ _ _ _ _ _ _ _ _ _ _ _ _ _
   | exact ih4 _ _ _ _ _ _ _ _ _ _ _ _ _ _ _ _ _ _ _ _ _ _ _ _ _ _ _
   | exact ih5 _ _ _ _ _ _ _ _ _ _ _ _ _ _ _ _ _ _ _ _ _ _ _ _
   | exact ih6 _ _ _ _ _ _ _ _ _ _ _ _ _ _ _ _ _ _ _ _ _ _ _ _
   | exact drv_Set.mono _ _ _ _ _ _ _ _ _ _ _ _
   | exact drv_Take.mono _ _ _ _ _ _ _ _ _ _ _ _
   | exact LeO.none _
   | refine LeO.ite ?_ ?_
   | refine LeO.bind ?_ (fun _ => ?_)
  ·intro y0 y1 y2 y3 y4 y5 y6 y7 y8 y9 y10 y11 y12 y13 y14 y15 y16 y17 y18 y19 y20 y21 y22 y23
   unfold gimballaw9_DrvFails.j6
   repeat' first
   | (with_reducible exact ih0 _ _ _ _ _ _ _ _ _ _ _ _ _)
   | (with_reducible exact ih1 _ _ _ _ _ _ _ _ _ _ _ _ _ _)
   | (with_reducible exact ih2 _ _ _ _ _ _ _ _ _ _ _ _ _ _ _ _ _ _ _ _ _ _ _ _ _ _)
   | (with_reducible exact ih3 _ _ _ _ _ _ _ _ _ _ _ _ _ _ _ _ _ _ _ _ _ _ _ _ _ _ _ _ _ _ _ _)
   | (with_reducible exact ih4 _ _ _ _ _ _ _ _ _ _ _ _ _ _ _ _ _ _ _ _ _ _ _ _ _ _ _)
   | (with_reducible exact ih5 _ _ _ _ _ _ _ _ _ _ _ _ _ _ _ _ _ _ _ _ _ _ _ _)
   | (with_reducible exact ih6 _ _ _ _ _ _ _ _ _ _ _ _ _ _ _ _ _ _ _ _ _ _ _ _)
   | (with_reducible exact drv_Set.mono _ _ _ _ _ _ _ _ _ _ _ _)
   | (with_reducible exact drv_Take.mono _ _ _ _ _ _ _ _ _ _ _ _)
   | (with_reducible exact LeO.refl _)
   | (with_reducible exact LeO.none _)
   | (with_reducible refine LeO.ite ?_ ?_)
   | (with_reducible refine LeO.bind ?_ (fun _ => ?_))
   | exact ih0 _ _ _ _ _ _ _ _ _ _ _ _ _
   | exact ih1 _ _ _ _ _ _ _ _ _ _ _ _ _ _
   | exact ih2 _ _ _ _ _ _ _ _ _ _ _ _ _ _ _ _ _ _ _ _ _ _ _ _ _ _
   | exact ih3 _ _ _ _ _ _ _ _ _ _ _ _ _ _ _ _ _ _ _ _ _ _ _ _ _ _ _ _ _ _ _ _
   | exact ih4 _ _ _ _ _ _ _ _ _ _ _ _ _ _ _ _ _ _ _ _ _ _ _ _ _ _ _
   | exact ih5 _ _ _ _ _ _ _ _ _ _ _ _ _ _ _ _ _ _ _ _ _ _ _ _
   | exact ih6 _ _ _ _ _ _ _ _ _ _ _ _ _ _ _ _ _ _ _ _ _ _ _ _
   | exact drv_Set.mono _ _ _ _ _ _ _ _ _ _ _ _
   | exact drv_Take.mono _ _ _ _ _ _ _ _ _ _ _ _
   | exact LeO.none _
   | refine LeO.ite ?_ ?_
   | refine LeO.bind ?_ (fun _ => ?_)
theorem gimballaw9_DrvFails.mono : ∀ a0 k, LeO (gimballaw9_DrvFails.f k a0) (gimballaw9_DrvFails.f (k + 1) a0) := by
 intro a0 k
 obtain ⟨ih0, ih1, ih2, ih3, ih4, ih5, ih6⟩ := gimballaw9_DrvFails.mono_l k
 unfold gimballaw9_DrvFails.f
 repeat' first
   | (with_reducible exact ih0 _ _ _ _ _ _ _ _ _ _ _ _ _)
   | (with_reducible exact ih1 _ _ _ _ _ _ _ _ _ _ _ _ _ _)
   | (with_reducible exact ih2 _ _ _ _ _ _ _ _ _ _ _ _ _ _ _ _ _ _ _ _ _ _ _ _ _ _)
   | (with_reducible exact ih3 _ _ _ _ _ _ _ _ _ _ _ _ _ _ _ _ _ _ _ _ _ _ _ _ _ _ _ _ _ _ _ _)
   | (with_reducible exact ih4 _ _ _ _ _ _ _ _ _ _ _ _ _ _ _ _ _ _ _ _ _ _ _ _ _ _ _)
   | (with_reducible exact ih5 _ _ _ _ _ _ _ _ _ _ _ _ _ _ _ _ _ _ _ _ _ _ _ _)
   | (with_reducible exact ih6 _ _ _ _ _ _ _ _ _ _ _ _ _ _ _ _ _ _ _ _ _ _ _ _)
   | (with_reducible exact drv_Set.mono _ _ _ _ _ _ _ _ _ _ _ _)
   | (with_reducible exact drv_Take.mono _ _ _ _ _ _ _ _ _ _ _ _)
   | (with_reducible exact LeO.refl _)
   | (with_reducible exact LeO.none _)
   | (with_reducible refine LeO.ite ?_ ?_)
   | (with_reducible refine LeO.bind ?_ (fun _ => ?_))
   | exact ih0 _ _ _ _ _ _ _ _ _ _ _ _ _
   | exact ih1 _ _ _ _ _ _ _ _ _ _ _ _ _ _
   | exact ih2 _ _ _ _ _ _ _ _ _ _ _ _ _ _ _ _ _ _ _ _ _ _ _ _ _ _
   | exact ih3 _ _ _ _ _ _ _ _ _ _ _ _ _ _ _ _ _ _ _ _ _ _ _ _ _ _ _ _ _ _ _ _
   | exact ih4 _ _ _ _ _ _ _ _ _ _ _ _ _ _ _ _ _ _ _ _ _ _ _ _ _ _ _
   | exact ih5 _ _ _ _ _ _ _ _ _ _ _ _ _ _ _ _ _ _ _ _ _ _ _ _
   | exact ih6 _ _ _ _ _ _ _ _ _ _ _ _ _ _ _ _ _ _ _ _ _ _ _ _
   | exact drv_Set.mono _ _ _ _ _ _ _ _ _ _ _ _
   | exact drv_Take.mono _ _ _ _ _ _ _ _ _ _ _ _
   | exact LeO.none _
   | refine LeO.ite ?_ ?_
   | refine LeO.bind ?_ (fun _ => ?_)
def gimballaw9_DrvFails.T14 : Bool × List (List Nat × List Nat) := (true, [([], []), ([], []), ([1], [1]), ([], []), ([3], [3]), ([4], [4]), ([5], [5]), ([0, 2, 6, 5], [0, 2, 6]), ([7], [7]), ([8], [8]), ([8], [8]), ([], []), ([11, 9, 7, 0, 1, 2, 3, 4, 5, 6, 7, 8, 9, 11], [9, 11]), ([10, 12, 0, 1, 2, 3, 4, 5, 6, 7, 8, 9, 10, 11, 12], [10])])
def gimballaw9_DrvFails.B14 : List Nat := [0, 0, 2, 0, 8, 24, 56, 127, 255, 511, 511, 0, 3071, 8191]
theorem gimballaw9_DrvFails.tab14 : rtab .any (opsOf Try.f5 14) = gimballaw9_DrvFails.T14 := by kernel_rfl
theorem gimballaw9_DrvFails.bits14 : waitsOk gimballaw9_DrvFails.T14.2 gimballaw9_DrvFails.B14 = true := by kernel_rfl
set_option maxHeartbeats 8000000 in
set_option maxRecDepth 100000 in
theorem gimballaw9_DrvFails.calls (k : Nat) (A0_0 : Option Addr) (c0_0 : Nat) (l0_0 : List (S29)) (r : Bool) (w : World) (hr0_0 : Kd.C k29 w A0_0 l0_0.length l0_0) (hc0_0 : l0_0.length ≤ c0_0) (h : gimballaw9_DrvFails.f k l0_0 = some r) (hrt_ : Aside0 (r = true)) :
  Calls Try.prog 5 #[.agg #[.slice A0_0 l0_0.length c0_0]] w fun e w' => e = .returned (.bool r) ∧ Below w.heap.size w w' := by
 have hu44 := Try.underlying44
 have hu24 := Try.underlying24
 have hu29 := Try.underlying29
 have hu31 := Try.underlying31
 have hu27 := Try.underlying27
 have HR0_0 := Aside0.mk hr0_0
 have HC0_0 := Aside0.mk hc0_0
 clear hr0_0 hc0_0
 have HB := Aside0.mk (Below.refl w.heap.size w)
 have H : ((drv_New.f 16 49).bind fun bt161 => ((gimballaw9_num.f bt161.2.2.2.2.2.2.2.2.2).bind fun t172 => (if t172 = 0 then (gimballaw9_DrvFails.l0 k 0 false 0 l0_0 bt161.1 bt161.2.1 bt161.2.2.1 bt161.2.2.2.1 bt161.2.2.2.2.1 bt161.2.2.2.2.2.1 bt161.2.2.2.2.2.2.1 bt161.2.2.2.2.2.2.2.1 bt161.2.2.2.2.2.2.2.2.1) else (some false)))) = some r := h
 clear h
 replace H := Option.bind_eq_some_iff.mp H
 obtain ⟨⟨t161, t162, t163, t164, t165, t166, t167, t168, t169, t170⟩, A20, H⟩ := H
 replace H : ((gimballaw9_num.f t170).bind fun t172 => (if t172 = 0 then (gimballaw9_DrvFails.l0 k 0 false 0 l0_0 t161 t162 t163 t164 t165 t166 t167 t168 t169) else (some false))) = some r := H
 have A2 := Aside0.mk A20
 clear A20
 replace H := Option.bind_eq_some_iff.mp H
 obtain ⟨t172, A30, H⟩ := H
 replace H : (if t172 = 0 then (gimballaw9_DrvFails.l0 k 0 false 0 l0_0 t161 t162 t163 t164 t165 t166 t167 t168 t169) else (some false)) = some r := H
 have A3 := Aside0.mk A30
 clear A30
 by_cases c4 : t172 = 0
 rotate_left
 ·rw [if_neg c4] at H
  have c4b0 : (t172 == 0) = false := beq_eq_false_iff_ne.mpr c4
  have c4b1 : (t172 != 0) = true := bne_iff_ne.mpr c4
  exact absurd ((Option.some.inj H).trans hrt_.out) (by simp)

 rw [if_pos c4] at H
 have c4b0 : (t172 == 0) = true := beq_iff_eq.mpr c4
 have c4b1 : (t172 != 0) = false := bne_eq_false_iff_eq.mpr c4
 clear c4
 have H' := Aside0.mk H
 clear H
 go_enter Try.func5, Try.ntmps5
 go_wp2_with (first | ((with_reducible refine gate_dst (N := 1) rfl ?_); (try (refine gate_guard (by rfl) ?_; dsimp only)); refine box_event ?hg (N := 1) ?hd (cs := #[.slice A0_0 l0_0.length c0_0]) (t := 44) ?hr ?_; (case hd => rfl); (case hg => rfl); (case hr => first | (go_simp; done) | (go_simp; rfl)); intro gb160 hg w5 hbox hb; have BK160 := Aside0.mk hbox; have GW160 := Sq.ge hg HB; have GE160 := Sq.ge hg HB; replace HB := Sq.sw HB hb; clear hb hbox hg) | ((with_reducible refine gate_callee (f := 16) rfl ?_); refine goesL_ (some 21) rfl rfl Try.func16 (by kernel_rfl) rfl #[.int .i64 16, .int .i64 49] rfl Sq.m ?_; (with_reducible refine (drv_New.calls 16 49 t161 t162 t163 t164 t165 t166 t167 t168 t169 t170 _ A2.out).mono ?_); rintro e w6 ⟨rfl, hb⟩; refine ⟨_, rfl, ?_⟩; replace BK160 := Sq.sb BK160 hb; replace HB := Sq.sw HB hb; (try clear hb); (try clear hb2); (try clear hk); (try clear hi)) | ((with_reducible refine gate_dst (N := 3) rfl ?_); (try (refine gate_guard (by rfl) ?_; dsimp only)); refine box_event ?hg (N := 3) ?hd (cs := #[.int .i64 0, .int .i64 0, .bool false, .int .i64 0, .int .i64 0, .int .i64 0, .bool false, .int .i64 0, .int .i64 0]) (t := 24) ?hr ?_; (case hd => rfl); (case hg => rfl); (case hr => first | (go_simp; done) | (go_simp; rfl)); intro gb171 hg w7 hbox hb; have BK171 := Aside0.mk hbox; have GW171 := Sq.ge hg HB; have GE171 := Sq.ge hg HB; obtain ⟨NB160_171, NB171_160⟩ := Sq.np hg BK160; replace BK160 := Sq.sb BK160 hb; replace HB := Sq.sw HB hb; clear hb hbox hg; have b8 := NB171_160.out; have d8 := NB160_171.out; obtain ⟨z9_0, z9_1, z9_2, z9_3, z9_4, z9_5, z9_6, z9_7, z9_8⟩ := Sq.c9 BK171.out; obtain ⟨y9_0, y9_1, y9_2, y9_3, y9_4, y9_5, y9_6, y9_7, y9_8⟩ := Sq.f9 BK171.out) | ((with_reducible refine gate_callee (f := 11) rfl ?_); refine goesL_ (some 25) rfl rfl Try.func11 (by kernel_rfl) rfl #[.int .i64 t170] rfl Sq.m ?_; (with_reducible refine (gimballaw9_num.calls t170 t172 _ A3.out).mono ?_); rintro e w' ⟨rfl, ⟨nd, rfl⟩⟩; refine ⟨_, rfl, ?_⟩))
 refine Cu.wp_loop (Cu.f :: Cu.f :: Cu.t :: Cu.f :: Cu.f :: Cu.t :: Cu.t :: Cu.t :: Cu.t :: Cu.t :: Cu.t :: Cu.t :: Cu.t :: Cu.t :: Cu.t :: Cu.t :: Cu.t :: Cu.t :: Cu.t :: Cu.t :: Cu.f :: Cu.f :: Cu.f :: Cu.f :: Cu.f :: Cu.f :: Cu.f :: Cu.t :: Cu.t :: Cu.t :: Cu.t :: Cu.t :: Cu.t :: Cu.t :: Cu.t :: Cu.t :: Cu.t :: Cu.t :: Cu.t :: Cu.t :: Cu.t :: Cu.t :: Cu.t :: Cu.t :: Cu.t :: Cu.t :: Cu.t :: Cu.t :: Cu.t :: Cu.t :: Cu.t :: Cu.t :: Cu.t :: Cu.t :: Cu.t :: Cu.t :: Cu.t :: Cu.t :: Cu.t :: Cu.t :: Cu.t :: Cu.t :: Cu.t :: Cu.t :: Cu.t :: Cu.t :: Cu.t :: Cu.t :: Cu.t :: Cu.t :: Cu.t :: Cu.t :: Cu.t :: Cu.t :: Cu.t :: Cu.t :: Cu.t :: Cu.t :: Cu.t :: Cu.t :: Cu.t :: Cu.t :: Cu.t :: Cu.t :: Cu.t :: Cu.t :: Cu.t :: Cu.t :: Cu.t :: Cu.t :: Cu.t :: Cu.t :: Cu.t :: Cu.t :: Cu.t :: Cu.t :: Cu.t :: Cu.t :: Cu.t :: Cu.t :: Cu.t :: Cu.t :: Cu.t :: Cu.t :: Cu.t :: Cu.t :: Cu.t :: Cu.t :: Cu.t :: Cu.t :: Cu.t :: Cu.t :: Cu.t :: Cu.t :: Cu.t :: Cu.t :: Cu.t :: Cu.t :: Cu.t :: Cu.t :: Cu.t :: Cu.t :: Cu.t :: Cu.t :: Cu.t :: Cu.t :: Cu.t :: Cu.t :: Cu.t :: Cu.t :: Cu.t :: Cu.t :: Cu.t :: Cu.t :: Cu.t :: Cu.t :: Cu.t :: Cu.t :: Cu.t :: Cu.t :: Cu.t :: Cu.t :: Cu.t :: Cu.t :: Cu.t :: Cu.t :: Cu.t :: Cu.t :: Cu.t :: Cu.t :: Cu.t :: Cu.t :: Cu.t :: Cu.t :: Cu.t :: Cu.t :: Cu.t :: Cu.t :: Cu.t :: Cu.t :: Cu.t :: Cu.t :: Cu.t :: Cu.t :: Cu.t :: Cu.t :: Cu.t :: Cu.t :: Cu.t :: Cu.t :: Cu.t :: Cu.t :: Cu.t :: Cu.t :: Cu.t :: Cu.t :: Cu.t :: Cu.t :: Cu.t :: Cu.t :: Cu.t :: Cu.t :: Cu.t :: Cu.t :: Cu.t :: Cu.t :: Cu.t :: Cu.t :: Cu.t :: Cu.t :: Cu.t :: Cu.t :: Cu.t :: Cu.t :: Cu.t :: Cu.t :: Cu.t :: Cu.t :: Cu.t :: Cu.t :: Cu.t :: Cu.t :: Cu.t :: Cu.f :: []) 192 (fun kq us_ w' => ∃ (x5_1 : Int) (x6_1 : Bool) (x7_1 : Int) (x172000_1 : Int) (x172001_1 : Int) (x172002_1 : Bool) (x172003_1 : Int) (x172004_1 : Int) (x172005_1 : Int) (x172006_1 : Bool) (x172007_1 : Int) (x172008_1 : Int), (Cu.nth us_ 1) = .int .i64 x5_1 ∧ (Cu.nth us_ 2) = .bool x6_1 ∧ (Cu.nth us_ 3) = .int .i64 x7_1 ∧ Aside0 (gimballaw9_DrvFails.l0 kq x5_1 x6_1 x7_1 l0_0 x172000_1 x172001_1 x172002_1 x172003_1 x172004_1 x172005_1 x172006_1 x172007_1 x172008_1 = some r) ∧ Aside0 (kq ≤ k) ∧ Aside0 (w'.heap[gb160]? = some (.cells #[(.slice A0_0 l0_0.length c0_0)] 44 (0, 0))) ∧ Aside0 (w'.heap[gb171]? = some (.cells #[.int .i64 x172000_1, .int .i64 x172001_1, .bool x172002_1, .int .i64 x172003_1, .int .i64 x172004_1, .int .i64 x172005_1, .bool x172006_1, .int .i64 x172007_1, .int .i64 x172008_1] 24 (0, 0))) ∧ Aside0 (Below w.heap.size w w')) k ?_ (by kernel_rfl) (by kernel_rfl) ?_
 · try dsimp only [Cu.pick, Cu.nth]
   exact ⟨(0), (false), (0), (t161), (t162), (t163), (t164), (t165), (t166), (t167), (t168), (t169), Sq.e, Sq.e, Sq.e, H', ⟨Nat.le_refl _⟩, ⟨Sq.F BK160.out⟩, ⟨Sq.B BK171.out⟩, ⟨Sq.w HB.out⟩⟩
 ·
  intro gk wr u2 u5 u6 u7 u8 u9 u10 u11 u12 u13 u14 u15 u16 u17 u18 u19 u27 u28 u29 u30 u31 u32 u33 u34 u35 u36 u37 u38 u39 u40 u41 u42 u43 u44 u45 u46 u47 u48 u49 u50 u51 u52 u53 u54 u55 u56 u57 u58 u59 u60 u61 u62 u63 u64 u65 u66 u67 u68 u69 u70 u71 u72 u73 u74 u75 u76 u77 u78 u79 u80 u81 u82 u83 u84 u85 u86 u87 u88 u89 u90 u91 u92 u93 u94 u95 u96 u97 u98 u99 u100 u101 u102 u103 u104 u105 u106 u107 u108 u109 u110 u111 u112 u113 u114 u115 u116 u117 u118 u119 u120 u121 u122 u123 u124 u125 u126 u127 u128 u129 u130 u131 u132 u133 u134 u135 u136 u137 u138 u139 u140 u141 u142 u143 u144 u145 u146 u147 u148 u149 u150 u151 u152 u153 u154 u155 u156 u157 u158 u159 u160 u161 u162 u163 u164 u165 u166 u167 u168 u169 u170 u171 u172 u173 u174 u175 u176 u177 u178 u179 u180 u181 u182 u183 u184 u185 u186 u187 u188 u189 u190 u191 u192 u193 u194 u195 u196 u197 u198 u199 u200 u201 u202
  try dsimp only [Cu.over, Cu.nth]
  intro hrel _ _ _ _
  clear H'; (try clear c4b0); (try clear c4b1); (try clear z9_0 z9_1 z9_2 z9_3 z9_4 z9_5 z9_6 z9_7 z9_8); (try clear y9_0 y9_1 y9_2 y9_3 y9_4 y9_5 y9_6 y9_7 y9_8)
  obtain ⟨x5_1, x6_1, x7_1, x172000_1, x172001_1, x172002_1, x172003_1, x172004_1, x172005_1, x172006_1, x172007_1, x172008_1, rfl, rfl, rfl, HA, HK1, BK160, BK171, HB⟩ := hrel
  cases gk with
  | zero => exact absurd HA.out (by simp [gimballaw9_DrvFails.l0])
  | succ k1 =>
   have H := HA.out
   clear HA
   simp only [gimballaw9_DrvFails.l0] at H
   have HC10 := Aside0.mk H
   clear H
   go_upto_region 7 with (fail)
   refine Cu.wp_cut (Cu.f :: Cu.f :: Cu.f :: Cu.f :: Cu.f :: Cu.f :: Cu.f :: Cu.f :: Cu.f :: Cu.f :: Cu.f :: Cu.f :: Cu.f :: Cu.f :: Cu.f :: Cu.f :: Cu.f :: Cu.f :: Cu.f :: Cu.f :: Cu.f :: Cu.f :: Cu.f :: Cu.f :: Cu.f :: Cu.f :: Cu.f :: Cu.t :: Cu.t :: Cu.t :: Cu.t :: Cu.t :: Cu.t :: Cu.t :: Cu.t :: Cu.t :: Cu.t :: Cu.t :: Cu.t :: Cu.t :: Cu.t :: Cu.t :: Cu.t :: Cu.t :: Cu.t :: Cu.t :: Cu.t :: Cu.t :: Cu.t :: Cu.t :: Cu.t :: Cu.t :: Cu.t :: Cu.t :: Cu.t :: Cu.t :: Cu.t :: Cu.t :: Cu.t :: Cu.t :: Cu.t :: Cu.t :: Cu.t :: Cu.t :: Cu.t :: Cu.t :: Cu.t :: Cu.t :: Cu.t :: Cu.t :: Cu.t :: Cu.t :: Cu.t :: Cu.t :: Cu.t :: Cu.t :: Cu.t :: Cu.t :: Cu.t :: Cu.t :: Cu.t :: Cu.t :: Cu.t :: Cu.t :: Cu.t :: Cu.t :: Cu.t :: Cu.t :: Cu.t :: Cu.t :: Cu.t :: Cu.t :: Cu.t :: Cu.t :: Cu.t :: Cu.t :: Cu.t :: Cu.t :: Cu.t :: Cu.t :: Cu.t :: Cu.t :: Cu.t :: Cu.t :: Cu.t :: Cu.t :: Cu.t :: Cu.t :: Cu.t :: Cu.t :: Cu.t :: Cu.t :: Cu.t :: Cu.t :: Cu.t :: Cu.t :: Cu.t :: Cu.t :: Cu.t :: Cu.t :: Cu.t :: Cu.t :: Cu.t :: Cu.t :: Cu.t :: Cu.t :: Cu.t :: Cu.t :: Cu.t :: Cu.t :: Cu.t :: Cu.t :: Cu.t :: Cu.t :: Cu.t :: Cu.t :: Cu.t :: Cu.t :: Cu.t :: Cu.t :: Cu.t :: Cu.t :: Cu.t :: Cu.t :: Cu.t :: Cu.t :: Cu.t :: Cu.t :: Cu.t :: Cu.f :: Cu.t :: Cu.t :: Cu.t :: Cu.t :: Cu.t :: Cu.t :: Cu.t :: Cu.t :: Cu.t :: Cu.t :: Cu.t :: Cu.t :: Cu.t :: Cu.t :: Cu.t :: Cu.t :: Cu.t :: Cu.t :: Cu.t :: Cu.t :: Cu.t :: Cu.t :: Cu.t :: Cu.t :: Cu.t :: Cu.t :: Cu.t :: Cu.t :: Cu.t :: Cu.t :: Cu.t :: Cu.t :: Cu.t :: Cu.t :: Cu.t :: Cu.t :: Cu.t :: Cu.t :: Cu.t :: Cu.t :: Cu.t :: Cu.t :: Cu.t :: Cu.t :: Cu.t :: Cu.t :: Cu.t :: Cu.t :: Cu.t :: Cu.t :: Cu.t :: Cu.t :: Cu.t :: Cu.f :: []) 175 (fun us_ wc => ∃ (kq : Nat) (x35_9 : Bool), (Cu.nth us_ 8) = .bool x35_9 ∧ Aside0 (gimballaw9_DrvFails.j1 kq x5_1 x6_1 x7_1 x35_9 l0_0 x172000_1 x172001_1 x172002_1 x172003_1 x172004_1 x172005_1 x172006_1 x172007_1 x172008_1 = some r) ∧ Aside0 (kq ≤ k1) ∧ Aside0 (wc.heap[gb160]? = some (.cells #[(.slice A0_0 l0_0.length c0_0)] 44 (0, 0))) ∧ Aside0 (wc.heap[gb171]? = some (.cells #[.int .i64 x172000_1, .int .i64 x172001_1, .bool x172002_1, .int .i64 x172003_1, .int .i64 x172004_1, .int .i64 x172005_1, .bool x172006_1, .int .i64 x172007_1, .int .i64 x172008_1] 24 (0, 0))) ∧ Aside0 (Below w.heap.size w wc)) ?_ ?_
   ·
    intro _ _ _ _
    have H := HC10.out
    clear HC10
    by_cases c11 : x7_1 < (l0_0.length : Int)
    ·rw [if_pos c11] at H
     have c11b0 : decide (x7_1 < (l0_0.length : Int)) = true := decide_eq_true c11
     clear c11
     (first | rw [c11b0] | (simp only [i64_w, i32_w]; rw [c11b0]) | skip)
     have H' := Aside0.mk H
     clear H; have b12 := NB160_171.out; have d12 := NB171_160.out
     have z13_0 : wr.cell? ⟨gb160, 0, none⟩ = some (.slice A0_0 l0_0.length c0_0) := (blk_cell BK160.out 0).trans rfl
     have y13_0 := blk_frozen BK160.out 0
     go_wp2
     refine Cu.meet (by assumption) ?_ (by kernel_rfl) (by kernel_rfl)
     try dsimp only [Cu.pick, Cu.nth]
     exact ⟨_, (decide (x7_1 < 30)), Sq.e, H', ⟨by have := HK1.out; first | omega | exact Nat.le_refl _⟩, ⟨Sq.b BK160.out⟩, ⟨Sq.b BK171.out⟩, ⟨Sq.w HB.out⟩⟩
    rw [if_neg c11] at H
    have c11b0 : decide (x7_1 < (l0_0.length : Int)) = false := decide_eq_false c11
    clear c11
    (first | rw [c11b0] | (simp only [i64_w, i32_w]; rw [c11b0]) | skip)
    have H' := Aside0.mk H
    clear H; have b14 := NB160_171.out; have d14 := NB171_160.out
    have z15_0 : wr.cell? ⟨gb160, 0, none⟩ = some (.slice A0_0 l0_0.length c0_0) := (blk_cell BK160.out 0).trans rfl
    have y15_0 := blk_frozen BK160.out 0
    go_wp2
    refine Cu.meet (by assumption) ?_ (by kernel_rfl) (by kernel_rfl)
    try dsimp only [Cu.pick, Cu.nth]
    exact ⟨_, (false), Sq.e, H', ⟨by have := HK1.out; first | omega | exact Nat.le_refl _⟩, ⟨Sq.b BK160.out⟩, ⟨Sq.b BK171.out⟩, ⟨Sq.w HB.out⟩⟩
   ·
    intro wc u27 u28 u29 u30 u31 u32 u33 u34 u35 u36 u37 u38 u39 u40 u41 u42 u43 u44 u45 u46 u47 u48 u49 u50 u51 u52 u53 u54 u55 u56 u57 u58 u59 u60 u61 u62 u63 u64 u65 u66 u67 u68 u69 u70 u71 u72 u73 u74 u75 u76 u77 u78 u79 u80 u81 u82 u83 u84 u85 u86 u87 u88 u89 u90 u91 u92 u93 u94 u95 u96 u97 u98 u99 u100 u101 u102 u103 u104 u105 u106 u107 u108 u109 u110 u111 u112 u113 u114 u115 u116 u117 u118 u119 u120 u121 u122 u123 u124 u125 u126 u127 u128 u129 u130 u131 u132 u133 u134 u135 u136 u137 u138 u139 u140 u141 u142 u143 u144 u145 u146 u147 u148 u150 u151 u152 u153 u154 u155 u156 u157 u158 u159 u160 u161 u162 u163 u164 u165 u166 u167 u168 u169 u170 u171 u172 u173 u174 u175 u176 u177 u178 u179 u180 u181 u182 u183 u184 u185 u186 u187 u188 u189 u190 u191 u192 u193 u194 u195 u196 u197 u198 u199 u200 u201 u202
    try dsimp only [Cu.over, Cu.nth]
    intro hcut
    clear HC10
    obtain ⟨kq, x35_9, rfl, HA, HJ9, BK160, BK171, HB⟩ := hcut
    cases kq with
    | zero => exact absurd HA.out (by simp [gimballaw9_DrvFails.j1])
    | succ kj9 =>
     have H := HA.out
     clear HA
     simp only [gimballaw9_DrvFails.j1] at H
     by_cases c16 : x35_9 = true
     ·subst c16
      have H1 : (if 0 ≤ x7_1 then (if x7_1 < (l0_0.length : Int) then (if (((rd_T29 l0_0 x7_1).f3.f1).length : Int) > 400 then (some true) else ((gimballaw0_Within.f ((rd_T29 l0_0 x7_1).f2) 4).bind fun t176 => (if t176 = 0 then ((gimballaw0_Within.f ((rd_T29 l0_0 x7_1).f2) 250).bind fun t177 => ((drv_Set.f kj9 x172000_1 x172001_1 x172002_1 x172003_1 x172004_1 x172005_1 x172006_1 x172007_1 x172008_1 ((rd_T29 l0_0 x7_1).f1) (wrap64 (1 + t177))).bind fun bt178 => ((gimballaw9_num.f bt178.2.2.2.2.2.2.2.2.2).bind fun t189 => (if t189 = 0 then (if bt178.2.2.2.2.1 = x172004_1 then (gimballaw9_DrvFails.j2 kj9 x5_1 x6_1 x7_1 l0_0 bt178.1 bt178.2.1 bt178.2.2.1 bt178.2.2.2.1 bt178.2.2.2.2.1 bt178.2.2.2.2.2.1 bt178.2.2.2.2.2.2.1 bt178.2.2.2.2.2.2.2.1 bt178.2.2.2.2.2.2.2.2.1 ((rd_T29 l0_0 x7_1).f0.f0) ((rd_T29 l0_0 x7_1).f0.f1) ((rd_T29 l0_0 x7_1).f0.f2) ((rd_T29 l0_0 x7_1).f0.f3) ((rd_T29 l0_0 x7_1).f0.f4) ((rd_T29 l0_0 x7_1).f0.f5) ((rd_T29 l0_0 x7_1).f0.f6) ((rd_T29 l0_0 x7_1).f0.f7) ((rd_T29 l0_0 x7_1).f0.f8) ((rd_T29 l0_0 x7_1).f1) ((rd_T29 l0_0 x7_1).f2) ((rd_T29 l0_0 x7_1).f3.f0) ((rd_T29 l0_0 x7_1).f3.f1)) else (gimballaw9_DrvFails.j2 kj9 0 x6_1 x7_1 l0_0 bt178.1 bt178.2.1 bt178.2.2.1 bt178.2.2.2.1 bt178.2.2.2.2.1 bt178.2.2.2.2.2.1 bt178.2.2.2.2.2.2.1 bt178.2.2.2.2.2.2.2.1 bt178.2.2.2.2.2.2.2.2.1 ((rd_T29 l0_0 x7_1).f0.f0) ((rd_T29 l0_0 x7_1).f0.f1) ((rd_T29 l0_0 x7_1).f0.f2) ((rd_T29 l0_0 x7_1).f0.f3) ((rd_T29 l0_0 x7_1).f0.f4) ((rd_T29 l0_0 x7_1).f0.f5) ((rd_T29 l0_0 x7_1).f0.f6) ((rd_T29 l0_0 x7_1).f0.f7) ((rd_T29 l0_0 x7_1).f0.f8) ((rd_T29 l0_0 x7_1).f1) ((rd_T29 l0_0 x7_1).f2) ((rd_T29 l0_0 x7_1).f3.f0) ((rd_T29 l0_0 x7_1).f3.f1))) else (some false))))) else (gimballaw9_DrvFails.j2 kj9 x5_1 x6_1 x7_1 l0_0 x172000_1 x172001_1 x172002_1 x172003_1 x172004_1 x172005_1 x172006_1 x172007_1 x172008_1 ((rd_T29 l0_0 x7_1).f0.f0) ((rd_T29 l0_0 x7_1).f0.f1) ((rd_T29 l0_0 x7_1).f0.f2) ((rd_T29 l0_0 x7_1).f0.f3) ((rd_T29 l0_0 x7_1).f0.f4) ((rd_T29 l0_0 x7_1).f0.f5) ((rd_T29 l0_0 x7_1).f0.f6) ((rd_T29 l0_0 x7_1).f0.f7) ((rd_T29 l0_0 x7_1).f0.f8) ((rd_T29 l0_0 x7_1).f1) ((rd_T29 l0_0 x7_1).f2) ((rd_T29 l0_0 x7_1).f3.f0) ((rd_T29 l0_0 x7_1).f3.f1))))) else (none)) else (none)) = some r := by rw [if_pos rfl] at H; exact H
      clear H
      have H := H1
      clear H1
      by_cases c17 : 0 ≤ x7_1
      rotate_left
      ·rw [if_neg c17] at H
       exact absurd H (by simp)
      rw [if_pos c17] at H
      have c17b0 : decide (0 ≤ x7_1) = true := decide_eq_true c17
      clear c17
      by_cases c18 : x7_1 < (l0_0.length : Int)
      rotate_left
      ·rw [if_neg c18] at H
       exact absurd H (by simp)
      rw [if_pos c18] at H
      have c18b0 : decide (x7_1 < (l0_0.length : Int)) = true := decide_eq_true c18
      clear c18
      by_cases c19 : (((rd_T29 l0_0 x7_1).f3.f1).length : Int) > 400
      ·rw [if_pos c19] at H
       have c19b0 : decide (400 < (((rd_T29 l0_0 x7_1).f3.f1).length : Int)) = true := decide_eq_true c19
       have c19b1 : decide (400 < ((rd_T29 l0_0 x7_1).f3.f1).length) = true := decide_eq_true (by omega)
       clear c19
       obtain rfl := Option.some.inj H
       have b20 := NB160_171.out; have d20 := NB171_160.out
       have z21_0 : wc.cell? ⟨gb160, 0, none⟩ = some (.slice A0_0 l0_0.length c0_0) := (blk_cell BK160.out 0).trans rfl
       have y21_0 := blk_frozen BK160.out 0
       have p174 : 0 ≤ (x7_1 : Int) := of_decide_eq_true (by first | (with_reducible assumption) | assumption)
       have q174 : x7_1 < (l0_0.length : Int) := of_decide_eq_true (by first | (with_reducible assumption) | assumption)
       obtain ⟨ad174, A174_12, c174_12, e174, hx174_0, hx174_1, hx174_2, hx174_3, hx174_4, hx174_5, hx174_6, hx174_7, hx174_8, hx174_9, hx174_10, hx174_11, hx174_12, hl174_12, hi174_12⟩ := at_T29 HR0_0.out x7_1 p174 q174
       cases e174
       replace hx174_0 := (HB.out.cell (World.block_lt_of_cell? w _ hx174_0)).trans hx174_0
       replace hx174_1 := (HB.out.cell (World.block_lt_of_cell? w _ hx174_1)).trans hx174_1
       replace hx174_2 := (HB.out.cell (World.block_lt_of_cell? w _ hx174_2)).trans hx174_2
       replace hx174_3 := (HB.out.cell (World.block_lt_of_cell? w _ hx174_3)).trans hx174_3
       replace hx174_4 := (HB.out.cell (World.block_lt_of_cell? w _ hx174_4)).trans hx174_4
       replace hx174_5 := (HB.out.cell (World.block_lt_of_cell? w _ hx174_5)).trans hx174_5
       replace hx174_6 := (HB.out.cell (World.block_lt_of_cell? w _ hx174_6)).trans hx174_6
       replace hx174_7 := (HB.out.cell (World.block_lt_of_cell? w _ hx174_7)).trans hx174_7
       replace hx174_8 := (HB.out.cell (World.block_lt_of_cell? w _ hx174_8)).trans hx174_8
       replace hx174_9 := (HB.out.cell (World.block_lt_of_cell? w _ hx174_9)).trans hx174_9
       replace hx174_10 := (HB.out.cell (World.block_lt_of_cell? w _ hx174_10)).trans hx174_10
       replace hx174_11 := (HB.out.cell (World.block_lt_of_cell? w _ hx174_11)).trans hx174_11
       replace hx174_12 := (HB.out.cell (World.block_lt_of_cell? w _ hx174_12)).trans hx174_12
       have HR174_12 := Aside0.mk hi174_12
       have HC174_12 := Aside0.mk hl174_12
       clear hi174_12 hl174_12
       replace p174 := eq_true p174
       replace q174 := eq_true q174
       go_wp2_with (first | ((with_reducible refine gate_dst (N := 8) rfl ?_); (try (refine gate_guard (by rfl) ?_; dsimp only)); refine box_event ?hg (N := 8) ?hd (cs := #[.int .i64 0, .int .i64 0, .bool false, .int .i64 0, .int .i64 0, .int .i64 0, .bool false, .int .i64 0, .int .i64 0, .bool false, .int .i64 0, .int .i64 0, .slice none 0 0]) (t := 29) ?hr ?_; (case hd => rfl); (case hg => rfl); (case hr => first | (go_simp; done) | (go_simp; rfl)); intro gb175 hg w22 hbox hb; have BK175 := Aside0.mk hbox; have GW175 := Sq.ge hg HB; have GE175 := Sq.ge hg HB; obtain ⟨NB160_175, NB175_160⟩ := Sq.np hg BK160; obtain ⟨NB171_175, NB175_171⟩ := Sq.np hg BK171; replace BK160 := Sq.sb BK160 hb; replace BK171 := Sq.sb BK171 hb; replace HB := Sq.sw HB hb; clear hb hbox hg; have b23 := NB175_160.out; have d23 := NB160_175.out; have b24 := NB175_171.out; have d24 := NB171_175.out; obtain ⟨z25_0, z25_1, z25_2, z25_3, z25_4, z25_5, z25_6, z25_7, z25_8, z25_9, z25_10, z25_11, z25_12⟩ := Sq.c13 BK175.out; obtain ⟨y25_0, y25_1, y25_2, y25_3, y25_4, y25_5, y25_6, y25_7, y25_8, y25_9, y25_10, y25_11, y25_12⟩ := Sq.f13 BK175.out))
       go_ret
       exact ⟨by first | rfl | (simp [errW_none, errW_some] <;> rfl) | (simp [*, errW_none, errW_some] <;> rfl), Sq.w HB.out⟩
      rw [if_neg c19] at H
      have c19b0 : decide (400 < (((rd_T29 l0_0 x7_1).f3.f1).length : Int)) = false := decide_eq_false c19
      have c19b1 : decide (400 < ((rd_T29 l0_0 x7_1).f3.f1).length) = false := decide_eq_false (by omega)
      clear c19
      replace H := Option.bind_eq_some_iff.mp H
      obtain ⟨t176, A260, H⟩ := H
      replace H : (if t176 = 0 then ((gimballaw0_Within.f ((rd_T29 l0_0 x7_1).f2) 250).bind fun t177 => ((drv_Set.f kj9 x172000_1 x172001_1 x172002_1 x172003_1 x172004_1 x172005_1 x172006_1 x172007_1 x172008_1 ((rd_T29 l0_0 x7_1).f1) (wrap64 (1 + t177))).bind fun bt178 => ((gimballaw9_num.f bt178.2.2.2.2.2.2.2.2.2).bind fun t189 => (if t189 = 0 then (if bt178.2.2.2.2.1 = x172004_1 then (gimballaw9_DrvFails.j2 kj9 x5_1 x6_1 x7_1 l0_0 bt178.1 bt178.2.1 bt178.2.2.1 bt178.2.2.2.1 bt178.2.2.2.2.1 bt178.2.2.2.2.2.1 bt178.2.2.2.2.2.2.1 bt178.2.2.2.2.2.2.2.1 bt178.2.2.2.2.2.2.2.2.1 ((rd_T29 l0_0 x7_1).f0.f0) ((rd_T29 l0_0 x7_1).f0.f1) ((rd_T29 l0_0 x7_1).f0.f2) ((rd_T29 l0_0 x7_1).f0.f3) ((rd_T29 l0_0 x7_1).f0.f4) ((rd_T29 l0_0 x7_1).f0.f5) ((rd_T29 l0_0 x7_1).f0.f6) ((rd_T29 l0_0 x7_1).f0.f7) ((rd_T29 l0_0 x7_1).f0.f8) ((rd_T29 l0_0 x7_1).f1) ((rd_T29 l0_0 x7_1).f2) ((rd_T29 l0_0 x7_1).f3.f0) ((rd_T29 l0_0 x7_1).f3.f1)) else (gimballaw9_DrvFails.j2 kj9 0 x6_1 x7_1 l0_0 bt178.1 bt178.2.1 bt178.2.2.1 bt178.2.2.2.1 bt178.2.2.2.2.1 bt178.2.2.2.2.2.1 bt178.2.2.2.2.2.2.1 bt178.2.2.2.2.2.2.2.1 bt178.2.2.2.2.2.2.2.2.1 ((rd_T29 l0_0 x7_1).f0.f0) ((rd_T29 l0_0 x7_1).f0.f1) ((rd_T29 l0_0 x7_1).f0.f2) ((rd_T29 l0_0 x7_1).f0.f3) ((rd_T29 l0_0 x7_1).f0.f4) ((rd_T29 l0_0 x7_1).f0.f5) ((rd_T29 l0_0 x7_1).f0.f6) ((rd_T29 l0_0 x7_1).f0.f7) ((rd_T29 l0_0 x7_1).f0.f8) ((rd_T29 l0_0 x7_1).f1) ((rd_T29 l0_0 x7_1).f2) ((rd_T29 l0_0 x7_1).f3.f0) ((rd_T29 l0_0 x7_1).f3.f1))) else (some false))))) else (gimballaw9_DrvFails.j2 kj9 x5_1 x6_1 x7_1 l0_0 x172000_1 x172001_1 x172002_1 x172003_1 x172004_1 x172005_1 x172006_1 x172007_1 x172008_1 ((rd_T29 l0_0 x7_1).f0.f0) ((rd_T29 l0_0 x7_1).f0.f1) ((rd_T29 l0_0 x7_1).f0.f2) ((rd_T29 l0_0 x7_1).f0.f3) ((rd_T29 l0_0 x7_1).f0.f4) ((rd_T29 l0_0 x7_1).f0.f5) ((rd_T29 l0_0 x7_1).f0.f6) ((rd_T29 l0_0 x7_1).f0.f7) ((rd_T29 l0_0 x7_1).f0.f8) ((rd_T29 l0_0 x7_1).f1) ((rd_T29 l0_0 x7_1).f2) ((rd_T29 l0_0 x7_1).f3.f0) ((rd_T29 l0_0 x7_1).f3.f1))) = some r := H
      have A26 := Aside0.mk A260
      clear A260
      have HC27 := Aside0.mk H
      clear H; have b28 := NB160_171.out; have d28 := NB171_160.out
      have z29_0 : wc.cell? ⟨gb160, 0, none⟩ = some (.slice A0_0 l0_0.length c0_0) := (blk_cell BK160.out 0).trans rfl
      have y29_0 := blk_frozen BK160.out 0
      have p174 : 0 ≤ (x7_1 : Int) := of_decide_eq_true (by first | (with_reducible assumption) | assumption)
      have q174 : x7_1 < (l0_0.length : Int) := of_decide_eq_true (by first | (with_reducible assumption) | assumption)
      obtain ⟨ad174, A174_12, c174_12, e174, hx174_0, hx174_1, hx174_2, hx174_3, hx174_4, hx174_5, hx174_6, hx174_7, hx174_8, hx174_9, hx174_10, hx174_11, hx174_12, hl174_12, hi174_12⟩ := at_T29 HR0_0.out x7_1 p174 q174
      cases e174
      replace hx174_0 := (HB.out.cell (World.block_lt_of_cell? w _ hx174_0)).trans hx174_0
      replace hx174_1 := (HB.out.cell (World.block_lt_of_cell? w _ hx174_1)).trans hx174_1
      replace hx174_2 := (HB.out.cell (World.block_lt_of_cell? w _ hx174_2)).trans hx174_2
      replace hx174_3 := (HB.out.cell (World.block_lt_of_cell? w _ hx174_3)).trans hx174_3
      replace hx174_4 := (HB.out.cell (World.block_lt_of_cell? w _ hx174_4)).trans hx174_4
      replace hx174_5 := (HB.out.cell (World.block_lt_of_cell? w _ hx174_5)).trans hx174_5
      replace hx174_6 := (HB.out.cell (World.block_lt_of_cell? w _ hx174_6)).trans hx174_6
      replace hx174_7 := (HB.out.cell (World.block_lt_of_cell? w _ hx174_7)).trans hx174_7
      replace hx174_8 := (HB.out.cell (World.block_lt_of_cell? w _ hx174_8)).trans hx174_8
      replace hx174_9 := (HB.out.cell (World.block_lt_of_cell? w _ hx174_9)).trans hx174_9
      replace hx174_10 := (HB.out.cell (World.block_lt_of_cell? w _ hx174_10)).trans hx174_10
      replace hx174_11 := (HB.out.cell (World.block_lt_of_cell? w _ hx174_11)).trans hx174_11
      replace hx174_12 := (HB.out.cell (World.block_lt_of_cell? w _ hx174_12)).trans hx174_12
      have HR174_12 := Aside0.mk hi174_12
      have HC174_12 := Aside0.mk hl174_12
      clear hi174_12 hl174_12
      replace p174 := eq_true p174
      replace q174 := eq_true q174
      go_upto_if 51 with (first | ((with_reducible refine gate_dst (N := 8) rfl ?_); (try (refine gate_guard (by rfl) ?_; dsimp only)); refine box_event ?hg (N := 8) ?hd (cs := #[.int .i64 0, .int .i64 0, .bool false, .int .i64 0, .int .i64 0, .int .i64 0, .bool false, .int .i64 0, .int .i64 0, .bool false, .int .i64 0, .int .i64 0, .slice none 0 0]) (t := 29) ?hr ?_; (case hd => rfl); (case hg => rfl); (case hr => first | (go_simp; done) | (go_simp; rfl)); intro gb175 hg w30 hbox hb; have BK175 := Aside0.mk hbox; have GW175 := Sq.ge hg HB; have GE175 := Sq.ge hg HB; obtain ⟨NB160_175, NB175_160⟩ := Sq.np hg BK160; obtain ⟨NB171_175, NB175_171⟩ := Sq.np hg BK171; replace BK160 := Sq.sb BK160 hb; replace BK171 := Sq.sb BK171 hb; replace HB := Sq.sw HB hb; clear hb hbox hg; have b31 := NB175_160.out; have d31 := NB160_175.out; have b32 := NB175_171.out; have d32 := NB171_175.out; obtain ⟨z33_0, z33_1, z33_2, z33_3, z33_4, z33_5, z33_6, z33_7, z33_8, z33_9, z33_10, z33_11, z33_12⟩ := Sq.c13 BK175.out; obtain ⟨y33_0, y33_1, y33_2, y33_3, y33_4, y33_5, y33_6, y33_7, y33_8, y33_9, y33_10, y33_11, y33_12⟩ := Sq.f13 BK175.out) | ((with_reducible refine gate_callee (f := 17) rfl ?_); refine goesL_ (some 50) rfl rfl Try.func17 (by kernel_rfl) rfl #[.int .i64 ((rd_T29 l0_0 x7_1).f2), .int .i64 4] rfl Sq.m ?_; (with_reducible refine (gimballaw0_Within.calls ((rd_T29 l0_0 x7_1).f2) 4 t176 _ A26.out).mono ?_); rintro e w' ⟨rfl, ⟨nd, rfl⟩⟩; refine ⟨_, rfl, ?_⟩))
      (try simp only [Act.put, List.setIfInBounds_toArray, List.set_cons_zero, List.set_cons_succ])
      refine Cu.wp_cut (Cu.f :: Cu.f :: Cu.t :: Cu.f :: Cu.f :: Cu.t :: Cu.f :: Cu.f :: Cu.f :: Cu.t :: Cu.t :: Cu.t :: Cu.f :: Cu.f :: Cu.f :: Cu.f :: Cu.f :: Cu.f :: Cu.f :: Cu.f :: Cu.f :: Cu.f :: Cu.f :: Cu.f :: Cu.f :: Cu.f :: Cu.f :: Cu.t :: Cu.t :: Cu.t :: Cu.t :: Cu.t :: Cu.t :: Cu.t :: Cu.t :: Cu.t :: Cu.t :: Cu.t :: Cu.t :: Cu.t :: Cu.t :: Cu.t :: Cu.t :: Cu.t :: Cu.t :: Cu.t :: Cu.t :: Cu.t :: Cu.t :: Cu.t :: Cu.t :: Cu.t :: Cu.t :: Cu.t :: Cu.t :: Cu.t :: Cu.t :: Cu.t :: Cu.t :: Cu.t :: Cu.t :: Cu.t :: Cu.t :: Cu.t :: Cu.t :: Cu.t :: Cu.t :: Cu.t :: Cu.t :: Cu.t :: Cu.t :: Cu.t :: Cu.t :: Cu.t :: Cu.t :: Cu.t :: Cu.t :: Cu.t :: Cu.t :: Cu.t :: Cu.t :: Cu.t :: Cu.t :: Cu.t :: Cu.t :: Cu.t :: Cu.t :: Cu.t :: Cu.t :: Cu.t :: Cu.t :: Cu.t :: Cu.t :: Cu.t :: Cu.t :: Cu.t :: Cu.t :: Cu.t :: Cu.t :: Cu.t :: Cu.t :: Cu.t :: Cu.t :: Cu.t :: Cu.t :: Cu.t :: Cu.t :: Cu.t :: Cu.t :: Cu.t :: Cu.t :: Cu.t :: Cu.t :: Cu.t :: Cu.t :: Cu.t :: Cu.t :: Cu.t :: Cu.t :: Cu.t :: Cu.t :: Cu.t :: Cu.t :: Cu.t :: Cu.t :: Cu.t :: Cu.t :: Cu.t :: Cu.t :: Cu.t :: Cu.t :: Cu.t :: Cu.t :: Cu.t :: Cu.t :: Cu.t :: Cu.t :: Cu.t :: Cu.t :: Cu.t :: Cu.t :: Cu.t :: Cu.t :: Cu.t :: Cu.t :: Cu.t :: Cu.t :: Cu.t :: Cu.t :: Cu.f :: Cu.t :: Cu.t :: Cu.t :: Cu.t :: Cu.t :: Cu.t :: Cu.t :: Cu.t :: Cu.t :: Cu.t :: Cu.t :: Cu.t :: Cu.t :: Cu.t :: Cu.t :: Cu.t :: Cu.t :: Cu.t :: Cu.t :: Cu.t :: Cu.t :: Cu.t :: Cu.t :: Cu.t :: Cu.t :: Cu.t :: Cu.t :: Cu.t :: Cu.t :: Cu.t :: Cu.t :: Cu.t :: Cu.t :: Cu.t :: Cu.t :: Cu.t :: Cu.t :: Cu.t :: Cu.t :: Cu.t :: Cu.t :: Cu.t :: Cu.t :: Cu.t :: Cu.t :: Cu.t :: Cu.t :: Cu.t :: Cu.t :: Cu.t :: Cu.t :: Cu.t :: Cu.t :: Cu.f :: []) 180 (fun us_ wc => ∃ (kq : Nat) (x5_26 : Int) (x172000_26 : Int) (x172001_26 : Int) (x172002_26 : Bool) (x172003_26 : Int) (x172004_26 : Int) (x172005_26 : Int) (x172006_26 : Bool) (x172007_26 : Int) (x172008_26 : Int), (Cu.nth us_ 1) = .int .i64 x5_26 ∧ Aside0 (gimballaw9_DrvFails.j2 kq x5_26 x6_1 x7_1 l0_0 x172000_26 x172001_26 x172002_26 x172003_26 x172004_26 x172005_26 x172006_26 x172007_26 x172008_26 ((rd_T29 l0_0 x7_1).f0.f0) ((rd_T29 l0_0 x7_1).f0.f1) ((rd_T29 l0_0 x7_1).f0.f2) ((rd_T29 l0_0 x7_1).f0.f3) ((rd_T29 l0_0 x7_1).f0.f4) ((rd_T29 l0_0 x7_1).f0.f5) ((rd_T29 l0_0 x7_1).f0.f6) ((rd_T29 l0_0 x7_1).f0.f7) ((rd_T29 l0_0 x7_1).f0.f8) ((rd_T29 l0_0 x7_1).f1) ((rd_T29 l0_0 x7_1).f2) ((rd_T29 l0_0 x7_1).f3.f0) ((rd_T29 l0_0 x7_1).f3.f1) = some r) ∧ Aside0 (kq ≤ kj9) ∧ Aside0 (wc.heap[gb160]? = some (.cells #[(.slice (some ad174) l0_0.length c0_0)] 44 (0, 0))) ∧ Aside0 (wc.heap[gb171]? = some (.cells #[.int .i64 x172000_26, .int .i64 x172001_26, .bool x172002_26, .int .i64 x172003_26, .int .i64 x172004_26, .int .i64 x172005_26, .bool x172006_26, .int .i64 x172007_26, .int .i64 x172008_26] 24 (0, 0))) ∧ Aside0 (wc.heap[gb175]? = some (.cells #[.int .i64 ((rd_T29 l0_0 x7_1).f0.f0), .int .i64 ((rd_T29 l0_0 x7_1).f0.f1), .bool ((rd_T29 l0_0 x7_1).f0.f2), .int .i64 ((rd_T29 l0_0 x7_1).f0.f3), .int .i64 ((rd_T29 l0_0 x7_1).f0.f4), .int .i64 ((rd_T29 l0_0 x7_1).f0.f5), .bool ((rd_T29 l0_0 x7_1).f0.f6), .int .i64 ((rd_T29 l0_0 x7_1).f0.f7), .int .i64 ((rd_T29 l0_0 x7_1).f0.f8), .bool ((rd_T29 l0_0 x7_1).f1), .int .i64 ((rd_T29 l0_0 x7_1).f2), .int .i64 ((rd_T29 l0_0 x7_1).f3.f0), (.slice A174_12 ((rd_T29 l0_0 x7_1).f3.f1).length c174_12)] 29 (0, 0))) ∧ Aside0 (Below w.heap.size w wc)) ?_ ?_
      ·
       intro _ _ _ _
       have H := HC27.out
       clear HC27
       by_cases c34 : t176 = 0
       ·rw [if_pos c34] at H
        have c34b0 : (t176 == 0) = true := beq_iff_eq.mpr c34
        have c34b1 : (t176 != 0) = false := bne_eq_false_iff_eq.mpr c34
        clear c34
        (first | rw [c34b0] | (simp only [i64_w, i32_w]; rw [c34b0]) | skip)
        replace H := Option.bind_eq_some_iff.mp H
        obtain ⟨t177, A350, H⟩ := H
        replace H : ((drv_Set.f kj9 x172000_1 x172001_1 x172002_1 x172003_1 x172004_1 x172005_1 x172006_1 x172007_1 x172008_1 ((rd_T29 l0_0 x7_1).f1) (wrap64 (1 + t177))).bind fun bt178 => ((gimballaw9_num.f bt178.2.2.2.2.2.2.2.2.2).bind fun t189 => (if t189 = 0 then (if bt178.2.2.2.2.1 = x172004_1 then (gimballaw9_DrvFails.j2 kj9 x5_1 x6_1 x7_1 l0_0 bt178.1 bt178.2.1 bt178.2.2.1 bt178.2.2.2.1 bt178.2.2.2.2.1 bt178.2.2.2.2.2.1 bt178.2.2.2.2.2.2.1 bt178.2.2.2.2.2.2.2.1 bt178.2.2.2.2.2.2.2.2.1 ((rd_T29 l0_0 x7_1).f0.f0) ((rd_T29 l0_0 x7_1).f0.f1) ((rd_T29 l0_0 x7_1).f0.f2) ((rd_T29 l0_0 x7_1).f0.f3) ((rd_T29 l0_0 x7_1).f0.f4) ((rd_T29 l0_0 x7_1).f0.f5) ((rd_T29 l0_0 x7_1).f0.f6) ((rd_T29 l0_0 x7_1).f0.f7) ((rd_T29 l0_0 x7_1).f0.f8) ((rd_T29 l0_0 x7_1).f1) ((rd_T29 l0_0 x7_1).f2) ((rd_T29 l0_0 x7_1).f3.f0) ((rd_T29 l0_0 x7_1).f3.f1)) else (gimballaw9_DrvFails.j2 kj9 0 x6_1 x7_1 l0_0 bt178.1 bt178.2.1 bt178.2.2.1 bt178.2.2.2.1 bt178.2.2.2.2.1 bt178.2.2.2.2.2.1 bt178.2.2.2.2.2.2.1 bt178.2.2.2.2.2.2.2.1 bt178.2.2.2.2.2.2.2.2.1 ((rd_T29 l0_0 x7_1).f0.f0) ((rd_T29 l0_0 x7_1).f0.f1) ((rd_T29 l0_0 x7_1).f0.f2) ((rd_T29 l0_0 x7_1).f0.f3) ((rd_T29 l0_0 x7_1).f0.f4) ((rd_T29 l0_0 x7_1).f0.f5) ((rd_T29 l0_0 x7_1).f0.f6) ((rd_T29 l0_0 x7_1).f0.f7) ((rd_T29 l0_0 x7_1).f0.f8) ((rd_T29 l0_0 x7_1).f1) ((rd_T29 l0_0 x7_1).f2) ((rd_T29 l0_0 x7_1).f3.f0) ((rd_T29 l0_0 x7_1).f3.f1))) else (some false)))) = some r := H
        have A35 := Aside0.mk A350
        clear A350
        replace H := Option.bind_eq_some_iff.mp H
        obtain ⟨⟨t178, t179, t180, t181, t182, t183, t184, t185, t186, t187⟩, A360, H⟩ := H
        replace H : ((gimballaw9_num.f t187).bind fun t189 => (if t189 = 0 then (if t182 = x172004_1 then (gimballaw9_DrvFails.j2 kj9 x5_1 x6_1 x7_1 l0_0 t178 t179 t180 t181 t182 t183 t184 t185 t186 ((rd_T29 l0_0 x7_1).f0.f0) ((rd_T29 l0_0 x7_1).f0.f1) ((rd_T29 l0_0 x7_1).f0.f2) ((rd_T29 l0_0 x7_1).f0.f3) ((rd_T29 l0_0 x7_1).f0.f4) ((rd_T29 l0_0 x7_1).f0.f5) ((rd_T29 l0_0 x7_1).f0.f6) ((rd_T29 l0_0 x7_1).f0.f7) ((rd_T29 l0_0 x7_1).f0.f8) ((rd_T29 l0_0 x7_1).f1) ((rd_T29 l0_0 x7_1).f2) ((rd_T29 l0_0 x7_1).f3.f0) ((rd_T29 l0_0 x7_1).f3.f1)) else (gimballaw9_DrvFails.j2 kj9 0 x6_1 x7_1 l0_0 t178 t179 t180 t181 t182 t183 t184 t185 t186 ((rd_T29 l0_0 x7_1).f0.f0) ((rd_T29 l0_0 x7_1).f0.f1) ((rd_T29 l0_0 x7_1).f0.f2) ((rd_T29 l0_0 x7_1).f0.f3) ((rd_T29 l0_0 x7_1).f0.f4) ((rd_T29 l0_0 x7_1).f0.f5) ((rd_T29 l0_0 x7_1).f0.f6) ((rd_T29 l0_0 x7_1).f0.f7) ((rd_T29 l0_0 x7_1).f0.f8) ((rd_T29 l0_0 x7_1).f1) ((rd_T29 l0_0 x7_1).f2) ((rd_T29 l0_0 x7_1).f3.f0) ((rd_T29 l0_0 x7_1).f3.f1))) else (some false))) = some r := H
        have A36 := Aside0.mk A360
        clear A360
        replace H := Option.bind_eq_some_iff.mp H
        obtain ⟨t189, A370, H⟩ := H
        replace H : (if t189 = 0 then (if t182 = x172004_1 then (gimballaw9_DrvFails.j2 kj9 x5_1 x6_1 x7_1 l0_0 t178 t179 t180 t181 t182 t183 t184 t185 t186 ((rd_T29 l0_0 x7_1).f0.f0) ((rd_T29 l0_0 x7_1).f0.f1) ((rd_T29 l0_0 x7_1).f0.f2) ((rd_T29 l0_0 x7_1).f0.f3) ((rd_T29 l0_0 x7_1).f0.f4) ((rd_T29 l0_0 x7_1).f0.f5) ((rd_T29 l0_0 x7_1).f0.f6) ((rd_T29 l0_0 x7_1).f0.f7) ((rd_T29 l0_0 x7_1).f0.f8) ((rd_T29 l0_0 x7_1).f1) ((rd_T29 l0_0 x7_1).f2) ((rd_T29 l0_0 x7_1).f3.f0) ((rd_T29 l0_0 x7_1).f3.f1)) else (gimballaw9_DrvFails.j2 kj9 0 x6_1 x7_1 l0_0 t178 t179 t180 t181 t182 t183 t184 t185 t186 ((rd_T29 l0_0 x7_1).f0.f0) ((rd_T29 l0_0 x7_1).f0.f1) ((rd_T29 l0_0 x7_1).f0.f2) ((rd_T29 l0_0 x7_1).f0.f3) ((rd_T29 l0_0 x7_1).f0.f4) ((rd_T29 l0_0 x7_1).f0.f5) ((rd_T29 l0_0 x7_1).f0.f6) ((rd_T29 l0_0 x7_1).f0.f7) ((rd_T29 l0_0 x7_1).f0.f8) ((rd_T29 l0_0 x7_1).f1) ((rd_T29 l0_0 x7_1).f2) ((rd_T29 l0_0 x7_1).f3.f0) ((rd_T29 l0_0 x7_1).f3.f1))) else (some false)) = some r := H
        have A37 := Aside0.mk A370
        clear A370
        by_cases c38 : t189 = 0
        rotate_left
        ·rw [if_neg c38] at H
         have c38b0 : (t189 == 0) = false := beq_eq_false_iff_ne.mpr c38
         have c38b1 : (t189 != 0) = true := bne_iff_ne.mpr c38
         exact absurd ((Option.some.inj H).trans hrt_.out) (by simp)
        rw [if_pos c38] at H
        have c38b0 : (t189 == 0) = true := beq_iff_eq.mpr c38
        have c38b1 : (t189 != 0) = false := bne_eq_false_iff_eq.mpr c38
        clear c38
        by_cases c39 : t182 = x172004_1
        ·rw [if_pos c39] at H
         have c39b0 : (t182 == x172004_1) = true := beq_iff_eq.mpr c39
         have c39b1 : (t182 != x172004_1) = false := bne_eq_false_iff_eq.mpr c39
         clear c39
         have H' := Aside0.mk H
         clear H; have b40 := NB171_160.out; have d40 := NB160_171.out; have b41 := NB171_175.out; have d41 := NB175_171.out
         obtain ⟨z42_0, z42_1, z42_2, z42_3, z42_4, z42_5, z42_6, z42_7, z42_8⟩ := Sq.c9 BK171.out
         obtain ⟨y42_0, y42_1, y42_2, y42_3, y42_4, y42_5, y42_6, y42_7, y42_8⟩ := Sq.f9 BK171.out
         try go_wp2
         have n0_ : Aside0 ((((((((((((((w30.setCell ⟨gb175, 0, none⟩ (.int .i64 ((rd_T29 l0_0 x7_1).f0.f0))).setCell ⟨gb175, 1, none⟩ (.int .i64 ((rd_T29 l0_0 x7_1).f0.f1))).setCell ⟨gb175, 2, none⟩ (.bool ((rd_T29 l0_0 x7_1).f0.f2))).setCell ⟨gb175, 3, none⟩ (.int .i64 ((rd_T29 l0_0 x7_1).f0.f3))).setCell ⟨gb175, 4, none⟩ (.int .i64 ((rd_T29 l0_0 x7_1).f0.f4))).setCell ⟨gb175, 5, none⟩ (.int .i64 ((rd_T29 l0_0 x7_1).f0.f5))).setCell ⟨gb175, 6, none⟩ (.bool ((rd_T29 l0_0 x7_1).f0.f6))).setCell ⟨gb175, 7, none⟩ (.int .i64 ((rd_T29 l0_0 x7_1).f0.f7))).setCell ⟨gb175, 8, none⟩ (.int .i64 ((rd_T29 l0_0 x7_1).f0.f8))).setCell ⟨gb175, 9, none⟩ (.bool ((rd_T29 l0_0 x7_1).f1))).setCell ⟨gb175, 10, none⟩ (.int .i64 ((rd_T29 l0_0 x7_1).f2))).setCell ⟨gb175, 11, none⟩ (.int .i64 ((rd_T29 l0_0 x7_1).f3.f0))).setCell ⟨gb175, 12, none⟩ (.slice A174_12 ((rd_T29 l0_0 x7_1).f3.f1).length c174_12)).heap[gb160]? = some (.cells #[.slice (some ad174) l0_0.length c0_0] 44 (0, 0))) := ⟨Sq.F BK160.out⟩
         have n1_ : Aside0 ((((((((((((((w30.setCell ⟨gb175, 0, none⟩ (.int .i64 ((rd_T29 l0_0 x7_1).f0.f0))).setCell ⟨gb175, 1, none⟩ (.int .i64 ((rd_T29 l0_0 x7_1).f0.f1))).setCell ⟨gb175, 2, none⟩ (.bool ((rd_T29 l0_0 x7_1).f0.f2))).setCell ⟨gb175, 3, none⟩ (.int .i64 ((rd_T29 l0_0 x7_1).f0.f3))).setCell ⟨gb175, 4, none⟩ (.int .i64 ((rd_T29 l0_0 x7_1).f0.f4))).setCell ⟨gb175, 5, none⟩ (.int .i64 ((rd_T29 l0_0 x7_1).f0.f5))).setCell ⟨gb175, 6, none⟩ (.bool ((rd_T29 l0_0 x7_1).f0.f6))).setCell ⟨gb175, 7, none⟩ (.int .i64 ((rd_T29 l0_0 x7_1).f0.f7))).setCell ⟨gb175, 8, none⟩ (.int .i64 ((rd_T29 l0_0 x7_1).f0.f8))).setCell ⟨gb175, 9, none⟩ (.bool ((rd_T29 l0_0 x7_1).f1))).setCell ⟨gb175, 10, none⟩ (.int .i64 ((rd_T29 l0_0 x7_1).f2))).setCell ⟨gb175, 11, none⟩ (.int .i64 ((rd_T29 l0_0 x7_1).f3.f0))).setCell ⟨gb175, 12, none⟩ (.slice A174_12 ((rd_T29 l0_0 x7_1).f3.f1).length c174_12)).heap[gb171]? = some (.cells #[.int .i64 x172000_1, .int .i64 x172001_1, .bool x172002_1, .int .i64 x172003_1, .int .i64 x172004_1, .int .i64 x172005_1, .bool x172006_1, .int .i64 x172007_1, .int .i64 x172008_1] 24 (0, 0))) := ⟨Sq.F BK171.out⟩
         have n2_ : Aside0 ((((((((((((((w30.setCell ⟨gb175, 0, none⟩ (.int .i64 ((rd_T29 l0_0 x7_1).f0.f0))).setCell ⟨gb175, 1, none⟩ (.int .i64 ((rd_T29 l0_0 x7_1).f0.f1))).setCell ⟨gb175, 2, none⟩ (.bool ((rd_T29 l0_0 x7_1).f0.f2))).setCell ⟨gb175, 3, none⟩ (.int .i64 ((rd_T29 l0_0 x7_1).f0.f3))).setCell ⟨gb175, 4, none⟩ (.int .i64 ((rd_T29 l0_0 x7_1).f0.f4))).setCell ⟨gb175, 5, none⟩ (.int .i64 ((rd_T29 l0_0 x7_1).f0.f5))).setCell ⟨gb175, 6, none⟩ (.bool ((rd_T29 l0_0 x7_1).f0.f6))).setCell ⟨gb175, 7, none⟩ (.int .i64 ((rd_T29 l0_0 x7_1).f0.f7))).setCell ⟨gb175, 8, none⟩ (.int .i64 ((rd_T29 l0_0 x7_1).f0.f8))).setCell ⟨gb175, 9, none⟩ (.bool ((rd_T29 l0_0 x7_1).f1))).setCell ⟨gb175, 10, none⟩ (.int .i64 ((rd_T29 l0_0 x7_1).f2))).setCell ⟨gb175, 11, none⟩ (.int .i64 ((rd_T29 l0_0 x7_1).f3.f0))).setCell ⟨gb175, 12, none⟩ (.slice A174_12 ((rd_T29 l0_0 x7_1).f3.f1).length c174_12)).heap[gb175]? = some (.cells #[.int .i64 ((rd_T29 l0_0 x7_1).f0.f0), .int .i64 ((rd_T29 l0_0 x7_1).f0.f1), .bool ((rd_T29 l0_0 x7_1).f0.f2), .int .i64 ((rd_T29 l0_0 x7_1).f0.f3), .int .i64 ((rd_T29 l0_0 x7_1).f0.f4), .int .i64 ((rd_T29 l0_0 x7_1).f0.f5), .bool ((rd_T29 l0_0 x7_1).f0.f6), .int .i64 ((rd_T29 l0_0 x7_1).f0.f7), .int .i64 ((rd_T29 l0_0 x7_1).f0.f8), .bool ((rd_T29 l0_0 x7_1).f1), .int .i64 ((rd_T29 l0_0 x7_1).f2), .int .i64 ((rd_T29 l0_0 x7_1).f3.f0), .slice A174_12 ((rd_T29 l0_0 x7_1).f3.f1).length c174_12] 29 (0, 0))) := ⟨Sq.B BK175.out⟩
         have n3_ : Aside0 (Below w.heap.size w (((((((((((((w30.setCell ⟨gb175, 0, none⟩ (.int .i64 ((rd_T29 l0_0 x7_1).f0.f0))).setCell ⟨gb175, 1, none⟩ (.int .i64 ((rd_T29 l0_0 x7_1).f0.f1))).setCell ⟨gb175, 2, none⟩ (.bool ((rd_T29 l0_0 x7_1).f0.f2))).setCell ⟨gb175, 3, none⟩ (.int .i64 ((rd_T29 l0_0 x7_1).f0.f3))).setCell ⟨gb175, 4, none⟩ (.int .i64 ((rd_T29 l0_0 x7_1).f0.f4))).setCell ⟨gb175, 5, none⟩ (.int .i64 ((rd_T29 l0_0 x7_1).f0.f5))).setCell ⟨gb175, 6, none⟩ (.bool ((rd_T29 l0_0 x7_1).f0.f6))).setCell ⟨gb175, 7, none⟩ (.int .i64 ((rd_T29 l0_0 x7_1).f0.f7))).setCell ⟨gb175, 8, none⟩ (.int .i64 ((rd_T29 l0_0 x7_1).f0.f8))).setCell ⟨gb175, 9, none⟩ (.bool ((rd_T29 l0_0 x7_1).f1))).setCell ⟨gb175, 10, none⟩ (.int .i64 ((rd_T29 l0_0 x7_1).f2))).setCell ⟨gb175, 11, none⟩ (.int .i64 ((rd_T29 l0_0 x7_1).f3.f0))).setCell ⟨gb175, 12, none⟩ (.slice A174_12 ((rd_T29 l0_0 x7_1).f3.f1).length c174_12))) := ⟨Sq.w HB.out⟩
         (try clear BK160)
         (try clear BK171)
         (try clear BK175)
         (try clear HB)
         generalize (((((((((((((w30.setCell ⟨gb175, 0, none⟩ (.int .i64 ((rd_T29 l0_0 x7_1).f0.f0))).setCell ⟨gb175, 1, none⟩ (.int .i64 ((rd_T29 l0_0 x7_1).f0.f1))).setCell ⟨gb175, 2, none⟩ (.bool ((rd_T29 l0_0 x7_1).f0.f2))).setCell ⟨gb175, 3, none⟩ (.int .i64 ((rd_T29 l0_0 x7_1).f0.f3))).setCell ⟨gb175, 4, none⟩ (.int .i64 ((rd_T29 l0_0 x7_1).f0.f4))).setCell ⟨gb175, 5, none⟩ (.int .i64 ((rd_T29 l0_0 x7_1).f0.f5))).setCell ⟨gb175, 6, none⟩ (.bool ((rd_T29 l0_0 x7_1).f0.f6))).setCell ⟨gb175, 7, none⟩ (.int .i64 ((rd_T29 l0_0 x7_1).f0.f7))).setCell ⟨gb175, 8, none⟩ (.int .i64 ((rd_T29 l0_0 x7_1).f0.f8))).setCell ⟨gb175, 9, none⟩ (.bool ((rd_T29 l0_0 x7_1).f1))).setCell ⟨gb175, 10, none⟩ (.int .i64 ((rd_T29 l0_0 x7_1).f2))).setCell ⟨gb175, 11, none⟩ (.int .i64 ((rd_T29 l0_0 x7_1).f3.f0))).setCell ⟨gb175, 12, none⟩ (.slice A174_12 ((rd_T29 l0_0 x7_1).f3.f1).length c174_12)) = w43 at n0_ n1_ n2_ n3_ ⊢
         have BK160 := n0_; have BK171 := n1_; have BK175 := n2_; have HB := n3_; clear n0_ n1_ n2_ n3_
         (try (rw [drewN_self w43]; generalize hq_ : World.drewN w43 _ = w43; have n0_ := Aside0.mk (blk_at hq_ BK160.out); have n1_ := Aside0.mk (blk_at hq_ BK171.out); have n2_ := Aside0.mk (blk_at hq_ BK175.out); have n3_ := Aside0.mk (below_at hq_ HB.out); clear hq_ BK160 BK171 BK175 HB; have BK160 := n0_; have BK171 := n1_; have BK175 := n2_; have HB := n3_; clear n0_ n1_ n2_ n3_))
         replace BK160 := Aside0.mk (blk_drew BK160.out); replace BK171 := Aside0.mk (blk_drew BK171.out); replace BK175 := Aside0.mk (blk_drew BK175.out); replace HB := Aside0.mk (below_drew1 HB.out)
         refine start_ (n := 14) (S := fun w' => w'.cell? ⟨gb171, 0, none⟩ = some (.int .i64 x172000_1) ∧ w'.cell? ⟨gb171, 1, none⟩ = some (.int .i64 x172001_1) ∧ w'.cell? ⟨gb171, 2, none⟩ = some (.bool x172002_1) ∧ w'.cell? ⟨gb171, 3, none⟩ = some (.int .i64 x172003_1) ∧ w'.cell? ⟨gb171, 4, none⟩ = some (.int .i64 x172004_1) ∧ w'.cell? ⟨gb171, 5, none⟩ = some (.int .i64 x172005_1) ∧ w'.cell? ⟨gb171, 6, none⟩ = some (.bool x172006_1) ∧ w'.cell? ⟨gb171, 7, none⟩ = some (.int .i64 x172007_1) ∧ w'.cell? ⟨gb171, 8, none⟩ = some (.int .i64 x172008_1) ∧ w'.cell? ⟨gb175, 0, none⟩ = some (.int .i64 ((rd_T29 l0_0 x7_1).f0.f0)) ∧ w'.cell? ⟨gb175, 1, none⟩ = some (.int .i64 ((rd_T29 l0_0 x7_1).f0.f1)) ∧ w'.cell? ⟨gb175, 2, none⟩ = some (.bool ((rd_T29 l0_0 x7_1).f0.f2)) ∧ w'.cell? ⟨gb175, 3, none⟩ = some (.int .i64 ((rd_T29 l0_0 x7_1).f0.f3)) ∧ w'.cell? ⟨gb175, 4, none⟩ = some (.int .i64 ((rd_T29 l0_0 x7_1).f0.f4)) ∧ w'.cell? ⟨gb175, 5, none⟩ = some (.int .i64 ((rd_T29 l0_0 x7_1).f0.f5)) ∧ w'.cell? ⟨gb175, 6, none⟩ = some (.bool ((rd_T29 l0_0 x7_1).f0.f6)) ∧ w'.cell? ⟨gb175, 7, none⟩ = some (.int .i64 ((rd_T29 l0_0 x7_1).f0.f7)) ∧ w'.cell? ⟨gb175, 8, none⟩ = some (.int .i64 ((rd_T29 l0_0 x7_1).f0.f8)) ∧ w'.cell? ⟨gb175, 9, none⟩ = some (.bool ((rd_T29 l0_0 x7_1).f1)) ∧ w'.cell? ⟨gb175, 10, none⟩ = some (.int .i64 ((rd_T29 l0_0 x7_1).f2)) ∧ w'.cell? ⟨gb175, 11, none⟩ = some (.int .i64 ((rd_T29 l0_0 x7_1).f3.f0)) ∧ w'.cell? ⟨gb175, 12, none⟩ = some (.slice A174_12 ((rd_T29 l0_0 x7_1).f3.f1).length c174_12)) (ds := []) #[false, false, false, false, false, false, false, false, false, false, false, false, false, false] (by kernel_rfl) rfl rfl ⟨(blk_cell BK171.out 0).trans rfl, (blk_cell BK171.out 1).trans rfl, (blk_cell BK171.out 2).trans rfl, (blk_cell BK171.out 3).trans rfl, (blk_cell BK171.out 4).trans rfl, (blk_cell BK171.out 5).trans rfl, (blk_cell BK171.out 6).trans rfl, (blk_cell BK171.out 7).trans rfl, (blk_cell BK171.out 8).trans rfl, (blk_cell BK175.out 0).trans rfl, (blk_cell BK175.out 1).trans rfl, (blk_cell BK175.out 2).trans rfl, (blk_cell BK175.out 3).trans rfl, (blk_cell BK175.out 4).trans rfl, (blk_cell BK175.out 5).trans rfl, (blk_cell BK175.out 6).trans rfl, (blk_cell BK175.out 7).trans rfl, (blk_cell BK175.out 8).trans rfl, (blk_cell BK175.out 9).trans rfl, (blk_cell BK175.out 10).trans rfl, (blk_cell BK175.out 11).trans rfl, (blk_cell BK175.out 12).trans rfl⟩ (fun hHeld => ?_); refine with_tabW gimballaw9_DrvFails.tab14 gimballaw9_DrvFails.bits14 (fun HT_ HW_ => ?_)
         generalize w43.drew = w44 at BK160 BK171 BK175 HB hHeld ⊢
         refine pure_ (i := 1) (N := some 56) (v := ?_) (a' := ?_) #[false, true, false, false, false, false, false, false, false, false, false, false, false, false] rfl rfl (any_of HT_.out (by kernel_rfl)) (fun _ _ _ h => h) (Or.inl ⟨by rfl, ?_⟩) ?_ ?_
         rotate_left
         ·intro w'; go_simp; with_reducible rfl
         rotate_left
         ·simp only [Act.put, List.setIfInBounds_toArray, List.set_cons_zero, List.set_cons_succ, i64_w, i32_w]; rfl
         refine pure_ (i := 3) (N := some 58) (v := ?_) (a' := ?_) #[false, true, false, true, false, false, false, false, false, false, false, false, false, false] rfl rfl (any_of HT_.out (by kernel_rfl)) (fun _ _ _ h => h) (Or.inl ⟨by rfl, ?_⟩) ?_ ?_
         rotate_left
         ·intro w'; go_simp; with_reducible rfl
         rotate_left
         ·simp only [Act.put, List.setIfInBounds_toArray, List.set_cons_zero, List.set_cons_succ, i64_w, i32_w]; rfl
         refine take_ (i := 0) (N := some 55) (v := ?_) (a' := ?_) #[true, true, false, true, false, false, false, false, false, false, false, false, false, false] rfl rfl (take_ofW HT_.out HW_.out (by kernel_rfl)) (fun _ _ _ h => h) (Or.inl ⟨by rfl, ?_⟩) hHeld ?_ ?_
         rotate_left
         ·rintro w' ⟨s0, s1, s2, s3, s4, s5, s6, s7, s8, s9, s10, s11, s12, s13, s14, s15, s16, s17, s18, s19, s20, s21⟩
          go_simp
          with_reducible rfl
         rotate_left
         ·simp only [Act.put, List.setIfInBounds_toArray, List.set_cons_zero, List.set_cons_succ, i64_w, i32_w]; rfl
         refine take_ (i := 2) (N := some 57) (v := ?_) (a' := ?_) #[true, true, true, true, false, false, false, false, false, false, false, false, false, false] rfl rfl (take_ofW HT_.out HW_.out (by kernel_rfl)) (fun _ _ _ h => h) (Or.inl ⟨by rfl, ?_⟩) hHeld ?_ ?_
         rotate_left
         ·rintro w' ⟨s0, s1, s2, s3, s4, s5, s6, s7, s8, s9, s10, s11, s12, s13, s14, s15, s16, s17, s18, s19, s20, s21⟩
          go_simp
          with_reducible rfl
         rotate_left
         ·simp only [Act.put, List.setIfInBounds_toArray, List.set_cons_zero, List.set_cons_succ, i64_w, i32_w]; rfl
         refine take_ (i := 4) (N := some 59) (v := ?_) (a' := ?_) #[true, true, true, true, true, false, false, false, false, false, false, false, false, false] rfl rfl (take_ofW HT_.out HW_.out (by kernel_rfl)) (fun _ _ _ h => h) (Or.inl ⟨by rfl, ?_⟩) hHeld ?_ ?_
         rotate_left
         ·rintro w' ⟨s0, s1, s2, s3, s4, s5, s6, s7, s8, s9, s10, s11, s12, s13, s14, s15, s16, s17, s18, s19, s20, s21⟩
          go_simp
          with_reducible rfl
         rotate_left
         ·simp only [Act.put, List.setIfInBounds_toArray, List.set_cons_zero, List.set_cons_succ, i64_w, i32_w]; rfl
         refine join_ (σ := Nat) 2 #[true, true, true, true, true, true, true, true, true, true, true, true, false, false] (fun s_ => [(60, .int .i64 t177), (62, .tuple #[.agg #[.int .i64 t178, .int .i64 t179, .bool t180, .int .i64 t181, .int .i64 t182, .int .i64 t183, .bool t184, .int .i64 t185, .int .i64 t186], .int .i64 t187]), (10, .pointer (some ⟨s_, 0, none⟩)), (61, .int .i64 (wrap64 (1 + t177))), (54, .tuple #[.agg #[.int .i64 t178, .int .i64 t179, .bool t180, .int .i64 t181, .int .i64 t182, .int .i64 t183, .bool t184, .int .i64 t185, .int .i64 t186], .int .i64 t187]), (63, .agg #[.int .i64 t178, .int .i64 t179, .bool t180, .int .i64 t181, .int .i64 t182, .int .i64 t183, .bool t184, .int .i64 t185, .int .i64 t186]), (64, .int .i64 t187)]) (fun s_ w' => (w'.cell? ⟨gb171, 0, none⟩ = some (.int .i64 x172000_1) ∧ w'.cell? ⟨gb171, 1, none⟩ = some (.int .i64 x172001_1) ∧ w'.cell? ⟨gb171, 2, none⟩ = some (.bool x172002_1) ∧ w'.cell? ⟨gb171, 3, none⟩ = some (.int .i64 x172003_1) ∧ w'.cell? ⟨gb171, 4, none⟩ = some (.int .i64 x172004_1) ∧ w'.cell? ⟨gb171, 5, none⟩ = some (.int .i64 x172005_1) ∧ w'.cell? ⟨gb171, 6, none⟩ = some (.bool x172006_1) ∧ w'.cell? ⟨gb171, 7, none⟩ = some (.int .i64 x172007_1) ∧ w'.cell? ⟨gb171, 8, none⟩ = some (.int .i64 x172008_1) ∧ w'.cell? ⟨gb175, 0, none⟩ = some (.int .i64 ((rd_T29 l0_0 x7_1).f0.f0)) ∧ w'.cell? ⟨gb175, 1, none⟩ = some (.int .i64 ((rd_T29 l0_0 x7_1).f0.f1)) ∧ w'.cell? ⟨gb175, 2, none⟩ = some (.bool ((rd_T29 l0_0 x7_1).f0.f2)) ∧ w'.cell? ⟨gb175, 3, none⟩ = some (.int .i64 ((rd_T29 l0_0 x7_1).f0.f3)) ∧ w'.cell? ⟨gb175, 4, none⟩ = some (.int .i64 ((rd_T29 l0_0 x7_1).f0.f4)) ∧ w'.cell? ⟨gb175, 5, none⟩ = some (.int .i64 ((rd_T29 l0_0 x7_1).f0.f5)) ∧ w'.cell? ⟨gb175, 6, none⟩ = some (.bool ((rd_T29 l0_0 x7_1).f0.f6)) ∧ w'.cell? ⟨gb175, 7, none⟩ = some (.int .i64 ((rd_T29 l0_0 x7_1).f0.f7)) ∧ w'.cell? ⟨gb175, 8, none⟩ = some (.int .i64 ((rd_T29 l0_0 x7_1).f0.f8)) ∧ w'.cell? ⟨gb175, 9, none⟩ = some (.bool ((rd_T29 l0_0 x7_1).f1)) ∧ w'.cell? ⟨gb175, 10, none⟩ = some (.int .i64 ((rd_T29 l0_0 x7_1).f2)) ∧ w'.cell? ⟨gb175, 11, none⟩ = some (.int .i64 ((rd_T29 l0_0 x7_1).f3.f0)) ∧ w'.cell? ⟨gb175, 12, none⟩ = some (.slice A174_12 ((rd_T29 l0_0 x7_1).f3.f1).length c174_12)) ∧ (w'.heap[gb160]? = some (.cells #[.slice (some ad174) l0_0.length c0_0] 44 (0, 0))) ∧ (w'.heap[gb171]? = some (.cells #[.int .i64 x172000_1, .int .i64 x172001_1, .bool x172002_1, .int .i64 x172003_1, .int .i64 x172004_1, .int .i64 x172005_1, .bool x172006_1, .int .i64 x172007_1, .int .i64 x172008_1] 24 (0, 0))) ∧ (w'.heap[gb175]? = some (.cells #[.int .i64 ((rd_T29 l0_0 x7_1).f0.f0), .int .i64 ((rd_T29 l0_0 x7_1).f0.f1), .bool ((rd_T29 l0_0 x7_1).f0.f2), .int .i64 ((rd_T29 l0_0 x7_1).f0.f3), .int .i64 ((rd_T29 l0_0 x7_1).f0.f4), .int .i64 ((rd_T29 l0_0 x7_1).f0.f5), .bool ((rd_T29 l0_0 x7_1).f0.f6), .int .i64 ((rd_T29 l0_0 x7_1).f0.f7), .int .i64 ((rd_T29 l0_0 x7_1).f0.f8), .bool ((rd_T29 l0_0 x7_1).f1), .int .i64 ((rd_T29 l0_0 x7_1).f2), .int .i64 ((rd_T29 l0_0 x7_1).f3.f0), .slice A174_12 ((rd_T29 l0_0 x7_1).f3.f1).length c174_12] 29 (0, 0))) ∧ (w'.heap[s_]? = some (.cells #[.int .i64 0, .int .i64 0, .bool false, .int .i64 0, .int .i64 0, .int .i64 0, .bool false, .int .i64 0, .int .i64 0] 24 (0, 0))) ∧ (w.heap.size ≤ s_) ∧ (w.heap.size ≤ s_) ∧ (gb160 ≠ s_) ∧ (s_ ≠ gb160) ∧ (gb171 ≠ s_) ∧ (s_ ≠ gb171) ∧ (gb175 ≠ s_) ∧ (s_ ≠ gb175) ∧ (Below w.heap.size w w')) ?_ ?_
         rotate_left
         ·intro hCont
          refine two_ (i := 5) (j := 11) (Ni := some 60) (Nj := some 10) #[true, true, true, true, true, true, false, false, false, false, false, false, false, false] #[true, true, true, true, true, false, false, false, false, false, false, true, false, false] rfl rfl rfl rfl (two_of HT_.out (by kernel_rfl)) (by decide) (by decide) (fun K hK => ?_) (fun K hK => ?_)
          ·skip
           refine goes_ Try.func17 (by kernel_rfl) rfl #[.int .i64 ((rd_T29 l0_0 x7_1).f2), .int .i64 250] (by rfl) rfl rfl Sq.m ?_
           with_reducible refine (gimballaw0_Within.calls ((rd_T29 l0_0 x7_1).f2) 250 t177 _ A35.out).mono ?_
           rintro e w' ⟨rfl, ⟨nd, rfl⟩⟩
           refine ⟨_, rfl, ?_⟩
           refine hK.out _ _ (Sq.j9 BK171.out (Sq.c13 BK175.out)) (fun hHeld => ?_)
           clear hK K
           refine norm_ (a' := ?_) ?_ ?_
           rotate_left
           ·show Act.put _ (some 60) _ = _; simp only [Act.put, List.setIfInBounds_toArray, List.set_cons_zero, List.set_cons_succ, i64_w, i32_w]; rfl
           refine pure_ (i := 6) (N := some 61) (v := ?_) (a' := ?_) #[true, true, true, true, true, true, true, false, false, false, false, false, false, false] rfl rfl (any_of HT_.out (by kernel_rfl)) (fun _ _ _ h => h) (Or.inl ⟨by rfl, ?_⟩) ?_ ?_
           rotate_left
           ·intro w'; go_simp; with_reducible rfl
           rotate_left
           ·simp only [Act.put, List.setIfInBounds_toArray, List.set_cons_zero, List.set_cons_succ, i64_w, i32_w]; rfl
           refine two_ (i := 7) (j := 11) (Ni := some 62) (Nj := some 10) #[true, true, true, true, true, true, true, true, false, false, false, false, false, false] #[true, true, true, true, true, true, true, false, false, false, false, true, false, false] rfl rfl rfl rfl (two_of HT_.out (by kernel_rfl)) (by decide) (by decide) (fun K hK => ?_) (fun K hK => ?_)
           ·skip
            refine goes_ Try.func14 (by kernel_rfl) rfl #[.agg #[.int .i64 x172000_1, .int .i64 x172001_1, .bool x172002_1, .int .i64 x172003_1, .int .i64 x172004_1, .int .i64 x172005_1, .bool x172006_1, .int .i64 x172007_1, .int .i64 x172008_1], .bool ((rd_T29 l0_0 x7_1).f1), .int .i64 (wrap64 (1 + t177))] (by rfl) rfl rfl Sq.m ?_
            with_reducible refine (drv_Set.calls kj9 x172000_1 x172001_1 x172002_1 x172003_1 x172004_1 x172005_1 x172006_1 x172007_1 x172008_1 ((rd_T29 l0_0 x7_1).f1) (wrap64 (1 + t177)) t178 t179 t180 t181 t182 t183 t184 t185 t186 t187 _ A36.out).mono ?_
            rintro e w45 ⟨rfl, hb⟩
            refine ⟨_, rfl, ?_⟩
            replace BK160 := Sq.sb BK160 hb; replace BK171 := Sq.sb BK171 hb; replace BK175 := Sq.sb BK175 hb; replace HB := Sq.sw HB hb
            (try clear hb)
            (try clear hb2)
            (try clear hk)
            (try clear hi)
            refine hK.out _ _ (Sq.j9 BK171.out (Sq.c13 BK175.out)) (fun hHeld => ?_)
            clear hK K
            refine norm_ (a' := ?_) ?_ ?_
            rotate_left
            ·show Act.put _ (some 62) _ = _; simp only [Act.put, List.setIfInBounds_toArray, List.set_cons_zero, List.set_cons_succ, i64_w, i32_w]; rfl
            refine pure_ (i := 8) (N := some 54) (v := ?_) (a' := ?_) #[true, true, true, true, true, true, true, true, true, false, false, false, false, false] rfl rfl (any_of HT_.out (by kernel_rfl)) (fun _ _ _ h => h) (Or.inl ⟨by rfl, ?_⟩) ?_ ?_
            rotate_left
            ·intro w'; go_simp; with_reducible rfl
            rotate_left
            ·simp only [Act.put, List.setIfInBounds_toArray, List.set_cons_zero, List.set_cons_succ, i64_w, i32_w]; rfl
            refine pure_ (i := 9) (N := some 63) (v := ?_) (a' := ?_) #[true, true, true, true, true, true, true, true, true, true, false, false, false, false] rfl rfl (any_of HT_.out (by kernel_rfl)) (fun _ _ _ h => h) (Or.inl ⟨by rfl, ?_⟩) ?_ ?_
            rotate_left
            ·intro w'; go_simp; with_reducible rfl
            rotate_left
            ·simp only [Act.put, List.setIfInBounds_toArray, List.set_cons_zero, List.set_cons_succ, i64_w, i32_w]; rfl
            refine pure_ (i := 10) (N := some 64) (v := ?_) (a' := ?_) #[true, true, true, true, true, true, true, true, true, true, true, false, false, false] rfl rfl (any_of HT_.out (by kernel_rfl)) (fun _ _ _ h => h) (Or.inl ⟨by rfl, ?_⟩) ?_ ?_
            rotate_left
            ·intro w'; go_simp; with_reducible rfl
            rotate_left
            ·simp only [Act.put, List.setIfInBounds_toArray, List.set_cons_zero, List.set_cons_succ, i64_w, i32_w]; rfl
            refine one_ (i := 11) (N := some 10) #[true, true, true, true, true, true, true, true, true, true, true, true, false, false] rfl rfl (one_of HT_.out (by kernel_rfl)) (by decide) (fun K hK => ?_)
            refine box_step ?hg (N := 10) ?hd (cs := #[.int .i64 0, .int .i64 0, .bool false, .int .i64 0, .int .i64 0, .int .i64 0, .bool false, .int .i64 0, .int .i64 0]) (t := 24) ?hr ?_; (case hd => rfl); (case hg => rfl); (case hr => first | (go_simp; done) | (go_simp; rfl))
            intro gb188 hg w46 hbox hb
            have BK188 := Aside0.mk hbox; have GW188 := Sq.ge hg HB; have GE188 := Sq.ge hg HB; obtain ⟨NB160_188, NB188_160⟩ := Sq.np hg BK160; obtain ⟨NB171_188, NB188_171⟩ := Sq.np hg BK171; obtain ⟨NB175_188, NB188_175⟩ := Sq.np hg BK175; replace BK160 := Sq.sb BK160 hb; replace BK171 := Sq.sb BK171 hb; replace BK175 := Sq.sb BK175 hb; replace HB := Sq.sw HB hb
            clear hb hbox hg
            refine hK.out _ _ (Sq.j9 BK171.out (Sq.c13 BK175.out)) (fun hHeld => ?_)
            clear hK K
            refine norm_ (a' := ?_) ?_ ?_
            rotate_left
            ·show Act.put _ (some 10) _ = _; simp only [Act.put, List.setIfInBounds_toArray, List.set_cons_zero, List.set_cons_succ, i64_w, i32_w]; rfl
            exact norm_ (by simp only [putAll, Act.put, List.setIfInBounds_toArray, List.set_cons_zero, List.set_cons_succ]) (hCont (gb188) _ ⟨hHeld, (Sq.b BK160.out), (Sq.b BK171.out), (Sq.b BK175.out), (Sq.b BK188.out), GW188.out, GE188.out, NB160_188.out, NB188_160.out, NB171_188.out, NB188_171.out, NB175_188.out, NB188_175.out, (Sq.w HB.out)⟩)
           ·skip
            refine box_step ?hg (N := 10) ?hd (cs := #[.int .i64 0, .int .i64 0, .bool false, .int .i64 0, .int .i64 0, .int .i64 0, .bool false, .int .i64 0, .int .i64 0]) (t := 24) ?hr ?_; (case hd => rfl); (case hg => rfl); (case hr => first | (go_simp; done) | (go_simp; rfl))
            intro gb188 hg w45 hbox hb
            have BK188 := Aside0.mk hbox; have GW188 := Sq.ge hg HB; have GE188 := Sq.ge hg HB; obtain ⟨NB160_188, NB188_160⟩ := Sq.np hg BK160; obtain ⟨NB171_188, NB188_171⟩ := Sq.np hg BK171; obtain ⟨NB175_188, NB188_175⟩ := Sq.np hg BK175; replace BK160 := Sq.sb BK160 hb; replace BK171 := Sq.sb BK171 hb; replace BK175 := Sq.sb BK175 hb; replace HB := Sq.sw HB hb
            clear hb hbox hg
            refine hK.out _ _ (Sq.j9 BK171.out (Sq.c13 BK175.out)) (fun hHeld => ?_)
            clear hK K
            refine norm_ (a' := ?_) ?_ ?_
            rotate_left
            ·show Act.put _ (some 10) _ = _; simp only [Act.put, List.setIfInBounds_toArray, List.set_cons_zero, List.set_cons_succ, i64_w, i32_w]; rfl
            refine one_ (i := 7) (N := some 62) #[true, true, true, true, true, true, true, true, false, false, false, true, false, false] rfl rfl (one_of HT_.out (by kernel_rfl)) (by decide) (fun K hK => ?_)
            refine goes_ Try.func14 (by kernel_rfl) rfl #[.agg #[.int .i64 x172000_1, .int .i64 x172001_1, .bool x172002_1, .int .i64 x172003_1, .int .i64 x172004_1, .int .i64 x172005_1, .bool x172006_1, .int .i64 x172007_1, .int .i64 x172008_1], .bool ((rd_T29 l0_0 x7_1).f1), .int .i64 (wrap64 (1 + t177))] (by rfl) rfl rfl Sq.m ?_
            with_reducible refine (drv_Set.calls kj9 x172000_1 x172001_1 x172002_1 x172003_1 x172004_1 x172005_1 x172006_1 x172007_1 x172008_1 ((rd_T29 l0_0 x7_1).f1) (wrap64 (1 + t177)) t178 t179 t180 t181 t182 t183 t184 t185 t186 t187 _ A36.out).mono ?_
            rintro e w46 ⟨rfl, hb⟩
            refine ⟨_, rfl, ?_⟩
            replace BK160 := Sq.sb BK160 hb; replace BK171 := Sq.sb BK171 hb; replace BK175 := Sq.sb BK175 hb; replace BK188 := Sq.sb BK188 hb; replace HB := Sq.sw HB hb
            (try clear hb)
            (try clear hb2)
            (try clear hk)
            (try clear hi)
            refine hK.out _ _ (Sq.j9 BK171.out (Sq.c13 BK175.out)) (fun hHeld => ?_)
            clear hK K
            refine norm_ (a' := ?_) ?_ ?_
            rotate_left
            ·show Act.put _ (some 62) _ = _; simp only [Act.put, List.setIfInBounds_toArray, List.set_cons_zero, List.set_cons_succ, i64_w, i32_w]; rfl
            refine pure_ (i := 8) (N := some 54) (v := ?_) (a' := ?_) #[true, true, true, true, true, true, true, true, true, false, false, true, false, false] rfl rfl (any_of HT_.out (by kernel_rfl)) (fun _ _ _ h => h) (Or.inl ⟨by rfl, ?_⟩) ?_ ?_
            rotate_left
            ·intro w'; go_simp; with_reducible rfl
            rotate_left
            ·simp only [Act.put, List.setIfInBounds_toArray, List.set_cons_zero, List.set_cons_succ, i64_w, i32_w]; rfl
            refine pure_ (i := 9) (N := some 63) (v := ?_) (a' := ?_) #[true, true, true, true, true, true, true, true, true, true, false, true, false, false] rfl rfl (any_of HT_.out (by kernel_rfl)) (fun _ _ _ h => h) (Or.inl ⟨by rfl, ?_⟩) ?_ ?_
            rotate_left
            ·intro w'; go_simp; with_reducible rfl
            rotate_left
            ·simp only [Act.put, List.setIfInBounds_toArray, List.set_cons_zero, List.set_cons_succ, i64_w, i32_w]; rfl
            refine pure_ (i := 10) (N := some 64) (v := ?_) (a' := ?_) #[true, true, true, true, true, true, true, true, true, true, true, true, false, false] rfl rfl (any_of HT_.out (by kernel_rfl)) (fun _ _ _ h => h) (Or.inl ⟨by rfl, ?_⟩) ?_ ?_
            rotate_left
            ·intro w'; go_simp; with_reducible rfl
            rotate_left
            ·simp only [Act.put, List.setIfInBounds_toArray, List.set_cons_zero, List.set_cons_succ, i64_w, i32_w]; rfl
            exact norm_ (by simp only [putAll, Act.put, List.setIfInBounds_toArray, List.set_cons_zero, List.set_cons_succ]) (hCont (gb188) _ ⟨hHeld, (Sq.b BK160.out), (Sq.b BK171.out), (Sq.b BK175.out), (Sq.b BK188.out), GW188.out, GE188.out, NB160_188.out, NB188_160.out, NB171_188.out, NB188_171.out, NB175_188.out, NB188_175.out, (Sq.w HB.out)⟩)
          ·skip
           refine box_step ?hg (N := 10) ?hd (cs := #[.int .i64 0, .int .i64 0, .bool false, .int .i64 0, .int .i64 0, .int .i64 0, .bool false, .int .i64 0, .int .i64 0]) (t := 24) ?hr ?_; (case hd => rfl); (case hg => rfl); (case hr => first | (go_simp; done) | (go_simp; rfl))
           intro gb188 hg w45 hbox hb
           have BK188 := Aside0.mk hbox; have GW188 := Sq.ge hg HB; have GE188 := Sq.ge hg HB; obtain ⟨NB160_188, NB188_160⟩ := Sq.np hg BK160; obtain ⟨NB171_188, NB188_171⟩ := Sq.np hg BK171; obtain ⟨NB175_188, NB188_175⟩ := Sq.np hg BK175; replace BK160 := Sq.sb BK160 hb; replace BK171 := Sq.sb BK171 hb; replace BK175 := Sq.sb BK175 hb; replace HB := Sq.sw HB hb
           clear hb hbox hg
           refine hK.out _ _ (Sq.j9 BK171.out (Sq.c13 BK175.out)) (fun hHeld => ?_)
           clear hK K
           refine norm_ (a' := ?_) ?_ ?_
           rotate_left
           ·show Act.put _ (some 10) _ = _; simp only [Act.put, List.setIfInBounds_toArray, List.set_cons_zero, List.set_cons_succ, i64_w, i32_w]; rfl
           refine one_ (i := 5) (N := some 60) #[true, true, true, true, true, true, false, false, false, false, false, true, false, false] rfl rfl (one_of HT_.out (by kernel_rfl)) (by decide) (fun K hK => ?_)
           refine goes_ Try.func17 (by kernel_rfl) rfl #[.int .i64 ((rd_T29 l0_0 x7_1).f2), .int .i64 250] (by rfl) rfl rfl Sq.m ?_
           with_reducible refine (gimballaw0_Within.calls ((rd_T29 l0_0 x7_1).f2) 250 t177 _ A35.out).mono ?_
           rintro e w' ⟨rfl, ⟨nd, rfl⟩⟩
           refine ⟨_, rfl, ?_⟩
           refine hK.out _ _ (Sq.j9 BK171.out (Sq.c13 BK175.out)) (fun hHeld => ?_)
           clear hK K
           refine norm_ (a' := ?_) ?_ ?_
           rotate_left
           ·show Act.put _ (some 60) _ = _; simp only [Act.put, List.setIfInBounds_toArray, List.set_cons_zero, List.set_cons_succ, i64_w, i32_w]; rfl
           refine pure_ (i := 6) (N := some 61) (v := ?_) (a' := ?_) #[true, true, true, true, true, true, true, false, false, false, false, true, false, false] rfl rfl (any_of HT_.out (by kernel_rfl)) (fun _ _ _ h => h) (Or.inl ⟨by rfl, ?_⟩) ?_ ?_
           rotate_left
           ·intro w'; go_simp; with_reducible rfl
           rotate_left
           ·simp only [Act.put, List.setIfInBounds_toArray, List.set_cons_zero, List.set_cons_succ, i64_w, i32_w]; rfl
           refine one_ (i := 7) (N := some 62) #[true, true, true, true, true, true, true, true, false, false, false, true, false, false] rfl rfl (one_of HT_.out (by kernel_rfl)) (by decide) (fun K hK => ?_)
           refine goes_ Try.func14 (by kernel_rfl) rfl #[.agg #[.int .i64 x172000_1, .int .i64 x172001_1, .bool x172002_1, .int .i64 x172003_1, .int .i64 x172004_1, .int .i64 x172005_1, .bool x172006_1, .int .i64 x172007_1, .int .i64 x172008_1], .bool ((rd_T29 l0_0 x7_1).f1), .int .i64 (wrap64 (1 + t177))] (by rfl) rfl rfl Sq.m ?_
           with_reducible refine (drv_Set.calls kj9 x172000_1 x172001_1 x172002_1 x172003_1 x172004_1 x172005_1 x172006_1 x172007_1 x172008_1 ((rd_T29 l0_0 x7_1).f1) (wrap64 (1 + t177)) t178 t179 t180 t181 t182 t183 t184 t185 t186 t187 _ A36.out).mono ?_
           rintro e w46 ⟨rfl, hb⟩
           refine ⟨_, rfl, ?_⟩
           replace BK160 := Sq.sb BK160 hb; replace BK171 := Sq.sb BK171 hb; replace BK175 := Sq.sb BK175 hb; replace BK188 := Sq.sb BK188 hb; replace HB := Sq.sw HB hb
           (try clear hb)
           (try clear hb2)
           (try clear hk)
           (try clear hi)
           refine hK.out _ _ (Sq.j9 BK171.out (Sq.c13 BK175.out)) (fun hHeld => ?_)
           clear hK K
           refine norm_ (a' := ?_) ?_ ?_
           rotate_left
           ·show Act.put _ (some 62) _ = _; simp only [Act.put, List.setIfInBounds_toArray, List.set_cons_zero, List.set_cons_succ, i64_w, i32_w]; rfl
           refine pure_ (i := 8) (N := some 54) (v := ?_) (a' := ?_) #[true, true, true, true, true, true, true, true, true, false, false, true, false, false] rfl rfl (any_of HT_.out (by kernel_rfl)) (fun _ _ _ h => h) (Or.inl ⟨by rfl, ?_⟩) ?_ ?_
           rotate_left
           ·intro w'; go_simp; with_reducible rfl
           rotate_left
           ·simp only [Act.put, List.setIfInBounds_toArray, List.set_cons_zero, List.set_cons_succ, i64_w, i32_w]; rfl
           refine pure_ (i := 9) (N := some 63) (v := ?_) (a' := ?_) #[true, true, true, true, true, true, true, true, true, true, false, true, false, false] rfl rfl (any_of HT_.out (by kernel_rfl)) (fun _ _ _ h => h) (Or.inl ⟨by rfl, ?_⟩) ?_ ?_
           rotate_left
           ·intro w'; go_simp; with_reducible rfl
           rotate_left
           ·simp only [Act.put, List.setIfInBounds_toArray, List.set_cons_zero, List.set_cons_succ, i64_w, i32_w]; rfl
           refine pure_ (i := 10) (N := some 64) (v := ?_) (a' := ?_) #[true, true, true, true, true, true, true, true, true, true, true, true, false, false] rfl rfl (any_of HT_.out (by kernel_rfl)) (fun _ _ _ h => h) (Or.inl ⟨by rfl, ?_⟩) ?_ ?_
           rotate_left
           ·intro w'; go_simp; with_reducible rfl
           rotate_left
           ·simp only [Act.put, List.setIfInBounds_toArray, List.set_cons_zero, List.set_cons_succ, i64_w, i32_w]; rfl
           exact norm_ (by simp only [putAll, Act.put, List.setIfInBounds_toArray, List.set_cons_zero, List.set_cons_succ]) (hCont (gb188) _ ⟨hHeld, (Sq.b BK160.out), (Sq.b BK171.out), (Sq.b BK175.out), (Sq.b BK188.out), GW188.out, GE188.out, NB160_188.out, NB188_160.out, NB171_188.out, NB188_171.out, NB175_188.out, NB188_175.out, (Sq.w HB.out)⟩)
         rintro gb188 w47 ⟨hS_, h0_, h1_, h2_, h3_, h4_, h5_, h6_, h7_, h8_, h9_, h10_, h11_, h12_⟩
         have n0_ : Aside0 (w47.heap[gb160]? = some (.cells #[.slice (some ad174) l0_0.length c0_0] 44 (0, 0))) := ⟨h0_⟩
         have n1_ : Aside0 (w47.heap[gb171]? = some (.cells #[.int .i64 x172000_1, .int .i64 x172001_1, .bool x172002_1, .int .i64 x172003_1, .int .i64 x172004_1, .int .i64 x172005_1, .bool x172006_1, .int .i64 x172007_1, .int .i64 x172008_1] 24 (0, 0))) := ⟨h1_⟩
         have n2_ : Aside0 (w47.heap[gb175]? = some (.cells #[.int .i64 ((rd_T29 l0_0 x7_1).f0.f0), .int .i64 ((rd_T29 l0_0 x7_1).f0.f1), .bool ((rd_T29 l0_0 x7_1).f0.f2), .int .i64 ((rd_T29 l0_0 x7_1).f0.f3), .int .i64 ((rd_T29 l0_0 x7_1).f0.f4), .int .i64 ((rd_T29 l0_0 x7_1).f0.f5), .bool ((rd_T29 l0_0 x7_1).f0.f6), .int .i64 ((rd_T29 l0_0 x7_1).f0.f7), .int .i64 ((rd_T29 l0_0 x7_1).f0.f8), .bool ((rd_T29 l0_0 x7_1).f1), .int .i64 ((rd_T29 l0_0 x7_1).f2), .int .i64 ((rd_T29 l0_0 x7_1).f3.f0), .slice A174_12 ((rd_T29 l0_0 x7_1).f3.f1).length c174_12] 29 (0, 0))) := ⟨h2_⟩
         have n3_ : Aside0 (w47.heap[gb188]? = some (.cells #[.int .i64 0, .int .i64 0, .bool false, .int .i64 0, .int .i64 0, .int .i64 0, .bool false, .int .i64 0, .int .i64 0] 24 (0, 0))) := ⟨h3_⟩
         have n4_ : Aside0 (w.heap.size ≤ gb188) := ⟨h4_⟩
         have n5_ : Aside0 (w.heap.size ≤ gb188) := ⟨h5_⟩
         have n6_ : Aside0 (gb160 ≠ gb188) := ⟨h6_⟩
         have n7_ : Aside0 (gb188 ≠ gb160) := ⟨h7_⟩
         have n8_ : Aside0 (gb171 ≠ gb188) := ⟨h8_⟩
         have n9_ : Aside0 (gb188 ≠ gb171) := ⟨h9_⟩
         have n10_ : Aside0 (gb175 ≠ gb188) := ⟨h10_⟩
         have n11_ : Aside0 (gb188 ≠ gb175) := ⟨h11_⟩
         have n12_ : Aside0 (Below w.heap.size w w47) := ⟨h12_⟩
         clear BK160 BK171 BK175 HB h0_ h1_ h2_ h3_ h4_ h5_ h6_ h7_ h8_ h9_ h10_ h11_ h12_; have BK160 := n0_; have BK171 := n1_; have BK175 := n2_; have BK188 := n3_; have GW188 := n4_; have GE188 := n5_; have NB160_188 := n6_; have NB188_160 := n7_; have NB171_188 := n8_; have NB188_171 := n9_; have NB175_188 := n10_; have NB188_175 := n11_; have HB := n12_; clear n0_ n1_ n2_ n3_ n4_ n5_ n6_ n7_ n8_ n9_ n10_ n11_ n12_
         have hHeld : w47.cell? ⟨gb171, 0, none⟩ = some (.int .i64 x172000_1) ∧ w47.cell? ⟨gb171, 1, none⟩ = some (.int .i64 x172001_1) ∧ w47.cell? ⟨gb171, 2, none⟩ = some (.bool x172002_1) ∧ w47.cell? ⟨gb171, 3, none⟩ = some (.int .i64 x172003_1) ∧ w47.cell? ⟨gb171, 4, none⟩ = some (.int .i64 x172004_1) ∧ w47.cell? ⟨gb171, 5, none⟩ = some (.int .i64 x172005_1) ∧ w47.cell? ⟨gb171, 6, none⟩ = some (.bool x172006_1) ∧ w47.cell? ⟨gb171, 7, none⟩ = some (.int .i64 x172007_1) ∧ w47.cell? ⟨gb171, 8, none⟩ = some (.int .i64 x172008_1) ∧ w47.cell? ⟨gb175, 0, none⟩ = some (.int .i64 ((rd_T29 l0_0 x7_1).f0.f0)) ∧ w47.cell? ⟨gb175, 1, none⟩ = some (.int .i64 ((rd_T29 l0_0 x7_1).f0.f1)) ∧ w47.cell? ⟨gb175, 2, none⟩ = some (.bool ((rd_T29 l0_0 x7_1).f0.f2)) ∧ w47.cell? ⟨gb175, 3, none⟩ = some (.int .i64 ((rd_T29 l0_0 x7_1).f0.f3)) ∧ w47.cell? ⟨gb175, 4, none⟩ = some (.int .i64 ((rd_T29 l0_0 x7_1).f0.f4)) ∧ w47.cell? ⟨gb175, 5, none⟩ = some (.int .i64 ((rd_T29 l0_0 x7_1).f0.f5)) ∧ w47.cell? ⟨gb175, 6, none⟩ = some (.bool ((rd_T29 l0_0 x7_1).f0.f6)) ∧ w47.cell? ⟨gb175, 7, none⟩ = some (.int .i64 ((rd_T29 l0_0 x7_1).f0.f7)) ∧ w47.cell? ⟨gb175, 8, none⟩ = some (.int .i64 ((rd_T29 l0_0 x7_1).f0.f8)) ∧ w47.cell? ⟨gb175, 9, none⟩ = some (.bool ((rd_T29 l0_0 x7_1).f1)) ∧ w47.cell? ⟨gb175, 10, none⟩ = some (.int .i64 ((rd_T29 l0_0 x7_1).f2)) ∧ w47.cell? ⟨gb175, 11, none⟩ = some (.int .i64 ((rd_T29 l0_0 x7_1).f3.f0)) ∧ w47.cell? ⟨gb175, 12, none⟩ = some (.slice A174_12 ((rd_T29 l0_0 x7_1).f3.f1).length c174_12) := hS_
         refine norm_ (a' := ?_) ?_ ?_
         rotate_left
         ·simp only [putAll, Act.put, List.setIfInBounds_toArray, List.set_cons_zero, List.set_cons_succ]
          rfl
         refine one_ (i := 12) (N := none) #[true, true, true, true, true, true, true, true, true, true, true, true, true, false] rfl rfl (one_of HT_.out (by kernel_rfl)) (by decide) (fun K hK => ?_)
         have hs48 : w47.cell? ⟨gb188, 0, none⟩ = some (.int .i64 0) := (blk_cell BK188.out 0).trans rfl
         have hfs48 := blk_frozen BK188.out 0
         have hns48_0 := NB160_188.out; have hns48_1 := NB171_188.out; have hns48_2 := NB175_188.out
         have hms48_0 := NB188_160.out
         have hms48_1 := NB188_171.out
         have hms48_2 := NB188_175.out
         have hs49 : w47.cell? ⟨gb188, 1, none⟩ = some (.int .i64 0) := (blk_cell BK188.out 1).trans rfl
         have hfs49 := blk_frozen BK188.out 1
         have hns49_0 := NB160_188.out; have hns49_1 := NB171_188.out; have hns49_2 := NB175_188.out
         have hms49_0 := NB188_160.out
         have hms49_1 := NB188_171.out
         have hms49_2 := NB188_175.out
         have hs50 : w47.cell? ⟨gb188, 2, none⟩ = some (.bool false) := (blk_cell BK188.out 2).trans rfl
         have hfs50 := blk_frozen BK188.out 2
         have hns50_0 := NB160_188.out; have hns50_1 := NB171_188.out; have hns50_2 := NB175_188.out
         have hms50_0 := NB188_160.out
         have hms50_1 := NB188_171.out
         have hms50_2 := NB188_175.out
         have hs51 : w47.cell? ⟨gb188, 3, none⟩ = some (.int .i64 0) := (blk_cell BK188.out 3).trans rfl
         have hfs51 := blk_frozen BK188.out 3
         have hns51_0 := NB160_188.out; have hns51_1 := NB171_188.out; have hns51_2 := NB175_188.out
         have hms51_0 := NB188_160.out
         have hms51_1 := NB188_171.out
         have hms51_2 := NB188_175.out
         have hs52 : w47.cell? ⟨gb188, 4, none⟩ = some (.int .i64 0) := (blk_cell BK188.out 4).trans rfl
         have hfs52 := blk_frozen BK188.out 4
         have hns52_0 := NB160_188.out; have hns52_1 := NB171_188.out; have hns52_2 := NB175_188.out
         have hms52_0 := NB188_160.out
         have hms52_1 := NB188_171.out
         have hms52_2 := NB188_175.out
         have hs53 : w47.cell? ⟨gb188, 5, none⟩ = some (.int .i64 0) := (blk_cell BK188.out 5).trans rfl
         have hfs53 := blk_frozen BK188.out 5
         have hns53_0 := NB160_188.out; have hns53_1 := NB171_188.out; have hns53_2 := NB175_188.out
         have hms53_0 := NB188_160.out
         have hms53_1 := NB188_171.out
         have hms53_2 := NB188_175.out
         have hs54 : w47.cell? ⟨gb188, 6, none⟩ = some (.bool false) := (blk_cell BK188.out 6).trans rfl
         have hfs54 := blk_frozen BK188.out 6
         have hns54_0 := NB160_188.out; have hns54_1 := NB171_188.out; have hns54_2 := NB175_188.out
         have hms54_0 := NB188_160.out
         have hms54_1 := NB188_171.out
         have hms54_2 := NB188_175.out
         have hs55 : w47.cell? ⟨gb188, 7, none⟩ = some (.int .i64 0) := (blk_cell BK188.out 7).trans rfl
         have hfs55 := blk_frozen BK188.out 7
         have hns55_0 := NB160_188.out; have hns55_1 := NB171_188.out; have hns55_2 := NB175_188.out
         have hms55_0 := NB188_160.out
         have hms55_1 := NB188_171.out
         have hms55_2 := NB188_175.out
         have hs56 : w47.cell? ⟨gb188, 8, none⟩ = some (.int .i64 0) := (blk_cell BK188.out 8).trans rfl
         have hfs56 := blk_frozen BK188.out 8
         have hns56_0 := NB160_188.out; have hns56_1 := NB171_188.out; have hns56_2 := NB175_188.out
         have hms56_0 := NB188_160.out
         have hms56_1 := NB188_171.out
         have hms56_2 := NB188_175.out
         refine skip_ (w1 := ?_) (by rfl) rfl ?_ ?_
         rotate_left
         ·go_simp
          rfl
         refine hK.out _ _ (Sq.hold hHeld) (fun hHeld => ?_)
         clear hK K
         refine pure_ (i := 13) (N := some 11) (v := ?_) (a' := ?_) #[true, true, true, true, true, true, true, true, true, true, true, true, true, true] rfl rfl (any_of HT_.out (by kernel_rfl)) (fun _ _ _ h => h) (Or.inl ⟨by rfl, ?_⟩) ?_ ?_
         rotate_left
         ·intro w'; go_simp; with_reducible rfl
         rotate_left
         ·simp only [Act.put, List.setIfInBounds_toArray, List.set_cons_zero, List.set_cons_succ, i64_w, i32_w]; rfl
         refine done_ (done_of HT_.out (by kernel_rfl)) ?_
         try go_wp2_with (first | ((with_reducible refine gate_callee (f := 11) rfl ?_); refine goesL_ (some 66) rfl rfl Try.func11 (by kernel_rfl) rfl #[.int .i64 t187] rfl Sq.m ?_; (with_reducible refine (gimballaw9_num.calls t187 t189 _ A37.out).mono ?_); rintro e w' ⟨rfl, ⟨nd, rfl⟩⟩; refine ⟨_, rfl, ?_⟩; have b57 := NB188_160.out; have d57 := NB160_188.out; have b58 := NB188_171.out; have d58 := NB171_188.out; have b59 := NB188_175.out; have d59 := NB175_188.out; obtain ⟨z60_0, z60_1, z60_2, z60_3, z60_4, z60_5, z60_6, z60_7, z60_8⟩ := Sq.c9 BK188.out; obtain ⟨y60_0, y60_1, y60_2, y60_3, y60_4, y60_5, y60_6, y60_7, y60_8⟩ := Sq.f9 BK188.out; obtain ⟨z61_0, z61_1, z61_2, z61_3, z61_4, z61_5, z61_6, z61_7, z61_8⟩ := Sq.c9 BK171.out; obtain ⟨y61_0, y61_1, y61_2, y61_3, y61_4, y61_5, y61_6, y61_7, y61_8⟩ := Sq.f9 BK171.out))
         refine Cu.meet (by assumption) ?_ (by kernel_rfl) (by kernel_rfl)
         try dsimp only [Cu.pick, Cu.nth]
         exact ⟨_, (x5_1), (t178), (t179), (t180), (t181), (t182), (t183), (t184), (t185), (t186), Sq.e, H', ⟨by have := HK1.out; have := HJ9.out; first | omega | exact Nat.le_refl _⟩, ⟨Sq.F BK160.out⟩, ⟨Sq.B BK171.out⟩, ⟨Sq.F BK175.out⟩, ⟨Sq.w HB.out⟩⟩
        rw [if_neg c39] at H
        have c39b0 : (t182 == x172004_1) = false := beq_eq_false_iff_ne.mpr c39
        have c39b1 : (t182 != x172004_1) = true := bne_iff_ne.mpr c39
        have H' := Aside0.mk H
        clear H; have b62 := NB171_160.out; have d62 := NB160_171.out; have b63 := NB171_175.out; have d63 := NB175_171.out
        obtain ⟨z64_0, z64_1, z64_2, z64_3, z64_4, z64_5, z64_6, z64_7, z64_8⟩ := Sq.c9 BK171.out
        obtain ⟨y64_0, y64_1, y64_2, y64_3, y64_4, y64_5, y64_6, y64_7, y64_8⟩ := Sq.f9 BK171.out
        try go_wp2
        have n0_ : Aside0 ((((((((((((((w30.setCell ⟨gb175, 0, none⟩ (.int .i64 ((rd_T29 l0_0 x7_1).f0.f0))).setCell ⟨gb175, 1, none⟩ (.int .i64 ((rd_T29 l0_0 x7_1).f0.f1))).setCell ⟨gb175, 2, none⟩ (.bool ((rd_T29 l0_0 x7_1).f0.f2))).setCell ⟨gb175, 3, none⟩ (.int .i64 ((rd_T29 l0_0 x7_1).f0.f3))).setCell ⟨gb175, 4, none⟩ (.int .i64 ((rd_T29 l0_0 x7_1).f0.f4))).setCell ⟨gb175, 5, none⟩ (.int .i64 ((rd_T29 l0_0 x7_1).f0.f5))).setCell ⟨gb175, 6, none⟩ (.bool ((rd_T29 l0_0 x7_1).f0.f6))).setCell ⟨gb175, 7, none⟩ (.int .i64 ((rd_T29 l0_0 x7_1).f0.f7))).setCell ⟨gb175, 8, none⟩ (.int .i64 ((rd_T29 l0_0 x7_1).f0.f8))).setCell ⟨gb175, 9, none⟩ (.bool ((rd_T29 l0_0 x7_1).f1))).setCell ⟨gb175, 10, none⟩ (.int .i64 ((rd_T29 l0_0 x7_1).f2))).setCell ⟨gb175, 11, none⟩ (.int .i64 ((rd_T29 l0_0 x7_1).f3.f0))).setCell ⟨gb175, 12, none⟩ (.slice A174_12 ((rd_T29 l0_0 x7_1).f3.f1).length c174_12)).heap[gb160]? = some (.cells #[.slice (some ad174) l0_0.length c0_0] 44 (0, 0))) := ⟨Sq.F BK160.out⟩
        have n1_ : Aside0 ((((((((((((((w30.setCell ⟨gb175, 0, none⟩ (.int .i64 ((rd_T29 l0_0 x7_1).f0.f0))).setCell ⟨gb175, 1, none⟩ (.int .i64 ((rd_T29 l0_0 x7_1).f0.f1))).setCell ⟨gb175, 2, none⟩ (.bool ((rd_T29 l0_0 x7_1).f0.f2))).setCell ⟨gb175, 3, none⟩ (.int .i64 ((rd_T29 l0_0 x7_1).f0.f3))).setCell ⟨gb175, 4, none⟩ (.int .i64 ((rd_T29 l0_0 x7_1).f0.f4))).setCell ⟨gb175, 5, none⟩ (.int .i64 ((rd_T29 l0_0 x7_1).f0.f5))).setCell ⟨gb175, 6, none⟩ (.bool ((rd_T29 l0_0 x7_1).f0.f6))).setCell ⟨gb175, 7, none⟩ (.int .i64 ((rd_T29 l0_0 x7_1).f0.f7))).setCell ⟨gb175, 8, none⟩ (.int .i64 ((rd_T29 l0_0 x7_1).f0.f8))).setCell ⟨gb175, 9, none⟩ (.bool ((rd_T29 l0_0 x7_1).f1))).setCell ⟨gb175, 10, none⟩ (.int .i64 ((rd_T29 l0_0 x7_1).f2))).setCell ⟨gb175, 11, none⟩ (.int .i64 ((rd_T29 l0_0 x7_1).f3.f0))).setCell ⟨gb175, 12, none⟩ (.slice A174_12 ((rd_T29 l0_0 x7_1).f3.f1).length c174_12)).heap[gb171]? = some (.cells #[.int .i64 x172000_1, .int .i64 x172001_1, .bool x172002_1, .int .i64 x172003_1, .int .i64 x172004_1, .int .i64 x172005_1, .bool x172006_1, .int .i64 x172007_1, .int .i64 x172008_1] 24 (0, 0))) := ⟨Sq.F BK171.out⟩
        have n2_ : Aside0 ((((((((((((((w30.setCell ⟨gb175, 0, none⟩ (.int .i64 ((rd_T29 l0_0 x7_1).f0.f0))).setCell ⟨gb175, 1, none⟩ (.int .i64 ((rd_T29 l0_0 x7_1).f0.f1))).setCell ⟨gb175, 2, none⟩ (.bool ((rd_T29 l0_0 x7_1).f0.f2))).setCell ⟨gb175, 3, none⟩ (.int .i64 ((rd_T29 l0_0 x7_1).f0.f3))).setCell ⟨gb175, 4, none⟩ (.int .i64 ((rd_T29 l0_0 x7_1).f0.f4))).setCell ⟨gb175, 5, none⟩ (.int .i64 ((rd_T29 l0_0 x7_1).f0.f5))).setCell ⟨gb175, 6, none⟩ (.bool ((rd_T29 l0_0 x7_1).f0.f6))).setCell ⟨gb175, 7, none⟩ (.int .i64 ((rd_T29 l0_0 x7_1).f0.f7))).setCell ⟨gb175, 8, none⟩ (.int .i64 ((rd_T29 l0_0 x7_1).f0.f8))).setCell ⟨gb175, 9, none⟩ (.bool ((rd_T29 l0_0 x7_1).f1))).setCell ⟨gb175, 10, none⟩ (.int .i64 ((rd_T29 l0_0 x7_1).f2))).setCell ⟨gb175, 11, none⟩ (.int .i64 ((rd_T29 l0_0 x7_1).f3.f0))).setCell ⟨gb175, 12, none⟩ (.slice A174_12 ((rd_T29 l0_0 x7_1).f3.f1).length c174_12)).heap[gb175]? = some (.cells #[.int .i64 ((rd_T29 l0_0 x7_1).f0.f0), .int .i64 ((rd_T29 l0_0 x7_1).f0.f1), .bool ((rd_T29 l0_0 x7_1).f0.f2), .int .i64 ((rd_T29 l0_0 x7_1).f0.f3), .int .i64 ((rd_T29 l0_0 x7_1).f0.f4), .int .i64 ((rd_T29 l0_0 x7_1).f0.f5), .bool ((rd_T29 l0_0 x7_1).f0.f6), .int .i64 ((rd_T29 l0_0 x7_1).f0.f7), .int .i64 ((rd_T29 l0_0 x7_1).f0.f8), .bool ((rd_T29 l0_0 x7_1).f1), .int .i64 ((rd_T29 l0_0 x7_1).f2), .int .i64 ((rd_T29 l0_0 x7_1).f3.f0), .slice A174_12 ((rd_T29 l0_0 x7_1).f3.f1).length c174_12] 29 (0, 0))) := ⟨Sq.B BK175.out⟩
        have n3_ : Aside0 (Below w.heap.size w (((((((((((((w30.setCell ⟨gb175, 0, none⟩ (.int .i64 ((rd_T29 l0_0 x7_1).f0.f0))).setCell ⟨gb175, 1, none⟩ (.int .i64 ((rd_T29 l0_0 x7_1).f0.f1))).setCell ⟨gb175, 2, none⟩ (.bool ((rd_T29 l0_0 x7_1).f0.f2))).setCell ⟨gb175, 3, none⟩ (.int .i64 ((rd_T29 l0_0 x7_1).f0.f3))).setCell ⟨gb175, 4, none⟩ (.int .i64 ((rd_T29 l0_0 x7_1).f0.f4))).setCell ⟨gb175, 5, none⟩ (.int .i64 ((rd_T29 l0_0 x7_1).f0.f5))).setCell ⟨gb175, 6, none⟩ (.bool ((rd_T29 l0_0 x7_1).f0.f6))).setCell ⟨gb175, 7, none⟩ (.int .i64 ((rd_T29 l0_0 x7_1).f0.f7))).setCell ⟨gb175, 8, none⟩ (.int .i64 ((rd_T29 l0_0 x7_1).f0.f8))).setCell ⟨gb175, 9, none⟩ (.bool ((rd_T29 l0_0 x7_1).f1))).setCell ⟨gb175, 10, none⟩ (.int .i64 ((rd_T29 l0_0 x7_1).f2))).setCell ⟨gb175, 11, none⟩ (.int .i64 ((rd_T29 l0_0 x7_1).f3.f0))).setCell ⟨gb175, 12, none⟩ (.slice A174_12 ((rd_T29 l0_0 x7_1).f3.f1).length c174_12))) := ⟨Sq.w HB.out⟩
        (try clear BK160)
        (try clear BK171)
        (try clear BK175)
        (try clear HB)
        generalize (((((((((((((w30.setCell ⟨gb175, 0, none⟩ (.int .i64 ((rd_T29 l0_0 x7_1).f0.f0))).setCell ⟨gb175, 1, none⟩ (.int .i64 ((rd_T29 l0_0 x7_1).f0.f1))).setCell ⟨gb175, 2, none⟩ (.bool ((rd_T29 l0_0 x7_1).f0.f2))).setCell ⟨gb175, 3, none⟩ (.int .i64 ((rd_T29 l0_0 x7_1).f0.f3))).setCell ⟨gb175, 4, none⟩ (.int .i64 ((rd_T29 l0_0 x7_1).f0.f4))).setCell ⟨gb175, 5, none⟩ (.int .i64 ((rd_T29 l0_0 x7_1).f0.f5))).setCell ⟨gb175, 6, none⟩ (.bool ((rd_T29 l0_0 x7_1).f0.f6))).setCell ⟨gb175, 7, none⟩ (.int .i64 ((rd_T29 l0_0 x7_1).f0.f7))).setCell ⟨gb175, 8, none⟩ (.int .i64 ((rd_T29 l0_0 x7_1).f0.f8))).setCell ⟨gb175, 9, none⟩ (.bool ((rd_T29 l0_0 x7_1).f1))).setCell ⟨gb175, 10, none⟩ (.int .i64 ((rd_T29 l0_0 x7_1).f2))).setCell ⟨gb175, 11, none⟩ (.int .i64 ((rd_T29 l0_0 x7_1).f3.f0))).setCell ⟨gb175, 12, none⟩ (.slice A174_12 ((rd_T29 l0_0 x7_1).f3.f1).length c174_12)) = w65 at n0_ n1_ n2_ n3_ ⊢
        have BK160 := n0_; have BK171 := n1_; have BK175 := n2_; have HB := n3_; clear n0_ n1_ n2_ n3_
        (try (rw [drewN_self w65]; generalize hq_ : World.drewN w65 _ = w65; have n0_ := Aside0.mk (blk_at hq_ BK160.out); have n1_ := Aside0.mk (blk_at hq_ BK171.out); have n2_ := Aside0.mk (blk_at hq_ BK175.out); have n3_ := Aside0.mk (below_at hq_ HB.out); clear hq_ BK160 BK171 BK175 HB; have BK160 := n0_; have BK171 := n1_; have BK175 := n2_; have HB := n3_; clear n0_ n1_ n2_ n3_))
        replace BK160 := Aside0.mk (blk_drew BK160.out); replace BK171 := Aside0.mk (blk_drew BK171.out); replace BK175 := Aside0.mk (blk_drew BK175.out); replace HB := Aside0.mk (below_drew1 HB.out)
        refine start_ (n := 14) (S := fun w' => w'.cell? ⟨gb171, 0, none⟩ = some (.int .i64 x172000_1) ∧ w'.cell? ⟨gb171, 1, none⟩ = some (.int .i64 x172001_1) ∧ w'.cell? ⟨gb171, 2, none⟩ = some (.bool x172002_1) ∧ w'.cell? ⟨gb171, 3, none⟩ = some (.int .i64 x172003_1) ∧ w'.cell? ⟨gb171, 4, none⟩ = some (.int .i64 x172004_1) ∧ w'.cell? ⟨gb171, 5, none⟩ = some (.int .i64 x172005_1) ∧ w'.cell? ⟨gb171, 6, none⟩ = some (.bool x172006_1) ∧ w'.cell? ⟨gb171, 7, none⟩ = some (.int .i64 x172007_1) ∧ w'.cell? ⟨gb171, 8, none⟩ = some (.int .i64 x172008_1) ∧ w'.cell? ⟨gb175, 0, none⟩ = some (.int .i64 ((rd_T29 l0_0 x7_1).f0.f0)) ∧ w'.cell? ⟨gb175, 1, none⟩ = some (.int .i64 ((rd_T29 l0_0 x7_1).f0.f1)) ∧ w'.cell? ⟨gb175, 2, none⟩ = some (.bool ((rd_T29 l0_0 x7_1).f0.f2)) ∧ w'.cell? ⟨gb175, 3, none⟩ = some (.int .i64 ((rd_T29 l0_0 x7_1).f0.f3)) ∧ w'.cell? ⟨gb175, 4, none⟩ = some (.int .i64 ((rd_T29 l0_0 x7_1).f0.f4)) ∧ w'.cell? ⟨gb175, 5, none⟩ = some (.int .i64 ((rd_T29 l0_0 x7_1).f0.f5)) ∧ w'.cell? ⟨gb175, 6, none⟩ = some (.bool ((rd_T29 l0_0 x7_1).f0.f6)) ∧ w'.cell? ⟨gb175, 7, none⟩ = some (.int .i64 ((rd_T29 l0_0 x7_1).f0.f7)) ∧ w'.cell? ⟨gb175, 8, none⟩ = some (.int .i64 ((rd_T29 l0_0 x7_1).f0.f8)) ∧ w'.cell? ⟨gb175, 9, none⟩ = some (.bool ((rd_T29 l0_0 x7_1).f1)) ∧ w'.cell? ⟨gb175, 10, none⟩ = some (.int .i64 ((rd_T29 l0_0 x7_1).f2)) ∧ w'.cell? ⟨gb175, 11, none⟩ = some (.int .i64 ((rd_T29 l0_0 x7_1).f3.f0)) ∧ w'.cell? ⟨gb175, 12, none⟩ = some (.slice A174_12 ((rd_T29 l0_0 x7_1).f3.f1).length c174_12)) (ds := []) #[false, false, false, false, false, false, false, false, false, false, false, false, false, false] (by kernel_rfl) rfl rfl ⟨(blk_cell BK171.out 0).trans rfl, (blk_cell BK171.out 1).trans rfl, (blk_cell BK171.out 2).trans rfl, (blk_cell BK171.out 3).trans rfl, (blk_cell BK171.out 4).trans rfl, (blk_cell BK171.out 5).trans rfl, (blk_cell BK171.out 6).trans rfl, (blk_cell BK171.out 7).trans rfl, (blk_cell BK171.out 8).trans rfl, (blk_cell BK175.out 0).trans rfl, (blk_cell BK175.out 1).trans rfl, (blk_cell BK175.out 2).trans rfl, (blk_cell BK175.out 3).trans rfl, (blk_cell BK175.out 4).trans rfl, (blk_cell BK175.out 5).trans rfl, (blk_cell BK175.out 6).trans rfl, (blk_cell BK175.out 7).trans rfl, (blk_cell BK175.out 8).trans rfl, (blk_cell BK175.out 9).trans rfl, (blk_cell BK175.out 10).trans rfl, (blk_cell BK175.out 11).trans rfl, (blk_cell BK175.out 12).trans rfl⟩ (fun hHeld => ?_); refine with_tabW gimballaw9_DrvFails.tab14 gimballaw9_DrvFails.bits14 (fun HT_ HW_ => ?_)
        generalize w65.drew = w66 at BK160 BK171 BK175 HB hHeld ⊢
        refine pure_ (i := 1) (N := some 56) (v := ?_) (a' := ?_) #[false, true, false, false, false, false, false, false, false, false, false, false, false, false] rfl rfl (any_of HT_.out (by kernel_rfl)) (fun _ _ _ h => h) (Or.inl ⟨by rfl, ?_⟩) ?_ ?_
        rotate_left
        ·intro w'; go_simp; with_reducible rfl
        rotate_left
        ·simp only [Act.put, List.setIfInBounds_toArray, List.set_cons_zero, List.set_cons_succ, i64_w, i32_w]; rfl
        refine pure_ (i := 3) (N := some 58) (v := ?_) (a' := ?_) #[false, true, false, true, false, false, false, false, false, false, false, false, false, false] rfl rfl (any_of HT_.out (by kernel_rfl)) (fun _ _ _ h => h) (Or.inl ⟨by rfl, ?_⟩) ?_ ?_
        rotate_left
        ·intro w'; go_simp; with_reducible rfl
        rotate_left
        ·simp only [Act.put, List.setIfInBounds_toArray, List.set_cons_zero, List.set_cons_succ, i64_w, i32_w]; rfl
        refine take_ (i := 0) (N := some 55) (v := ?_) (a' := ?_) #[true, true, false, true, false, false, false, false, false, false, false, false, false, false] rfl rfl (take_ofW HT_.out HW_.out (by kernel_rfl)) (fun _ _ _ h => h) (Or.inl ⟨by rfl, ?_⟩) hHeld ?_ ?_
        rotate_left
        ·rintro w' ⟨s0, s1, s2, s3, s4, s5, s6, s7, s8, s9, s10, s11, s12, s13, s14, s15, s16, s17, s18, s19, s20, s21⟩
         go_simp
         with_reducible rfl
        rotate_left
        ·simp only [Act.put, List.setIfInBounds_toArray, List.set_cons_zero, List.set_cons_succ, i64_w, i32_w]; rfl
        refine take_ (i := 2) (N := some 57) (v := ?_) (a' := ?_) #[true, true, true, true, false, false, false, false, false, false, false, false, false, false] rfl rfl (take_ofW HT_.out HW_.out (by kernel_rfl)) (fun _ _ _ h => h) (Or.inl ⟨by rfl, ?_⟩) hHeld ?_ ?_
        rotate_left
        ·rintro w' ⟨s0, s1, s2, s3, s4, s5, s6, s7, s8, s9, s10, s11, s12, s13, s14, s15, s16, s17, s18, s19, s20, s21⟩
         go_simp
         with_reducible rfl
        rotate_left
        ·simp only [Act.put, List.setIfInBounds_toArray, List.set_cons_zero, List.set_cons_succ, i64_w, i32_w]; rfl
        refine take_ (i := 4) (N := some 59) (v := ?_) (a' := ?_) #[true, true, true, true, true, false, false, false, false, false, false, false, false, false] rfl rfl (take_ofW HT_.out HW_.out (by kernel_rfl)) (fun _ _ _ h => h) (Or.inl ⟨by rfl, ?_⟩) hHeld ?_ ?_
        rotate_left
        ·rintro w' ⟨s0, s1, s2, s3, s4, s5, s6, s7, s8, s9, s10, s11, s12, s13, s14, s15, s16, s17, s18, s19, s20, s21⟩
         go_simp
         with_reducible rfl
        rotate_left
        ·simp only [Act.put, List.setIfInBounds_toArray, List.set_cons_zero, List.set_cons_succ, i64_w, i32_w]; rfl
        refine join_ (σ := Nat) 2 #[true, true, true, true, true, true, true, true, true, true, true, true, false, false] (fun s_ => [(60, .int .i64 t177), (62, .tuple #[.agg #[.int .i64 t178, .int .i64 t179, .bool t180, .int .i64 t181, .int .i64 t182, .int .i64 t183, .bool t184, .int .i64 t185, .int .i64 t186], .int .i64 t187]), (10, .pointer (some ⟨s_, 0, none⟩)), (61, .int .i64 (wrap64 (1 + t177))), (54, .tuple #[.agg #[.int .i64 t178, .int .i64 t179, .bool t180, .int .i64 t181, .int .i64 t182, .int .i64 t183, .bool t184, .int .i64 t185, .int .i64 t186], .int .i64 t187]), (63, .agg #[.int .i64 t178, .int .i64 t179, .bool t180, .int .i64 t181, .int .i64 t182, .int .i64 t183, .bool t184, .int .i64 t185, .int .i64 t186]), (64, .int .i64 t187)]) (fun s_ w' => (w'.cell? ⟨gb171, 0, none⟩ = some (.int .i64 x172000_1) ∧ w'.cell? ⟨gb171, 1, none⟩ = some (.int .i64 x172001_1) ∧ w'.cell? ⟨gb171, 2, none⟩ = some (.bool x172002_1) ∧ w'.cell? ⟨gb171, 3, none⟩ = some (.int .i64 x172003_1) ∧ w'.cell? ⟨gb171, 4, none⟩ = some (.int .i64 x172004_1) ∧ w'.cell? ⟨gb171, 5, none⟩ = some (.int .i64 x172005_1) ∧ w'.cell? ⟨gb171, 6, none⟩ = some (.bool x172006_1) ∧ w'.cell? ⟨gb171, 7, none⟩ = some (.int .i64 x172007_1) ∧ w'.cell? ⟨gb171, 8, none⟩ = some (.int .i64 x172008_1) ∧ w'.cell? ⟨gb175, 0, none⟩ = some (.int .i64 ((rd_T29 l0_0 x7_1).f0.f0)) ∧ w'.cell? ⟨gb175, 1, none⟩ = some (.int .i64 ((rd_T29 l0_0 x7_1).f0.f1)) ∧ w'.cell? ⟨gb175, 2, none⟩ = some (.bool ((rd_T29 l0_0 x7_1).f0.f2)) ∧ w'.cell? ⟨gb175, 3, none⟩ = some (.int .i64 ((rd_T29 l0_0 x7_1).f0.f3)) ∧ w'.cell? ⟨gb175, 4, none⟩ = some (.int .i64 ((rd_T29 l0_0 x7_1).f0.f4)) ∧ w'.cell? ⟨gb175, 5, none⟩ = some (.int .i64 ((rd_T29 l0_0 x7_1).f0.f5)) ∧ w'.cell? ⟨gb175, 6, none⟩ = some (.bool ((rd_T29 l0_0 x7_1).f0.f6)) ∧ w'.cell? ⟨gb175, 7, none⟩ = some (.int .i64 ((rd_T29 l0_0 x7_1).f0.f7)) ∧ w'.cell? ⟨gb175, 8, none⟩ = some (.int .i64 ((rd_T29 l0_0 x7_1).f0.f8)) ∧ w'.cell? ⟨gb175, 9, none⟩ = some (.bool ((rd_T29 l0_0 x7_1).f1)) ∧ w'.cell? ⟨gb175, 10, none⟩ = some (.int .i64 ((rd_T29 l0_0 x7_1).f2)) ∧ w'.cell? ⟨gb175, 11, none⟩ = some (.int .i64 ((rd_T29 l0_0 x7_1).f3.f0)) ∧ w'.cell? ⟨gb175, 12, none⟩ = some (.slice A174_12 ((rd_T29 l0_0 x7_1).f3.f1).length c174_12)) ∧ (w'.heap[gb160]? = some (.cells #[.slice (some ad174) l0_0.length c0_0] 44 (0, 0))) ∧ (w'.heap[gb171]? = some (.cells #[.int .i64 x172000_1, .int .i64 x172001_1, .bool x172002_1, .int .i64 x172003_1, .int .i64 x172004_1, .int .i64 x172005_1, .bool x172006_1, .int .i64 x172007_1, .int .i64 x172008_1] 24 (0, 0))) ∧ (w'.heap[gb175]? = some (.cells #[.int .i64 ((rd_T29 l0_0 x7_1).f0.f0), .int .i64 ((rd_T29 l0_0 x7_1).f0.f1), .bool ((rd_T29 l0_0 x7_1).f0.f2), .int .i64 ((rd_T29 l0_0 x7_1).f0.f3), .int .i64 ((rd_T29 l0_0 x7_1).f0.f4), .int .i64 ((rd_T29 l0_0 x7_1).f0.f5), .bool ((rd_T29 l0_0 x7_1).f0.f6), .int .i64 ((rd_T29 l0_0 x7_1).f0.f7), .int .i64 ((rd_T29 l0_0 x7_1).f0.f8), .bool ((rd_T29 l0_0 x7_1).f1), .int .i64 ((rd_T29 l0_0 x7_1).f2), .int .i64 ((rd_T29 l0_0 x7_1).f3.f0), .slice A174_12 ((rd_T29 l0_0 x7_1).f3.f1).length c174_12] 29 (0, 0))) ∧ (w'.heap[s_]? = some (.cells #[.int .i64 0, .int .i64 0, .bool false, .int .i64 0, .int .i64 0, .int .i64 0, .bool false, .int .i64 0, .int .i64 0] 24 (0, 0))) ∧ (w.heap.size ≤ s_) ∧ (w.heap.size ≤ s_) ∧ (gb160 ≠ s_) ∧ (s_ ≠ gb160) ∧ (gb171 ≠ s_) ∧ (s_ ≠ gb171) ∧ (gb175 ≠ s_) ∧ (s_ ≠ gb175) ∧ (Below w.heap.size w w')) ?_ ?_
        rotate_left
        ·intro hCont
         refine two_ (i := 5) (j := 11) (Ni := some 60) (Nj := some 10) #[true, true, true, true, true, true, false, false, false, false, false, false, false, false] #[true, true, true, true, true, false, false, false, false, false, false, true, false, false] rfl rfl rfl rfl (two_of HT_.out (by kernel_rfl)) (by decide) (by decide) (fun K hK => ?_) (fun K hK => ?_)
         ·skip
          refine goes_ Try.func17 (by kernel_rfl) rfl #[.int .i64 ((rd_T29 l0_0 x7_1).f2), .int .i64 250] (by rfl) rfl rfl Sq.m ?_
          with_reducible refine (gimballaw0_Within.calls ((rd_T29 l0_0 x7_1).f2) 250 t177 _ A35.out).mono ?_
          rintro e w' ⟨rfl, ⟨nd, rfl⟩⟩
          refine ⟨_, rfl, ?_⟩
          refine hK.out _ _ (Sq.j9 BK171.out (Sq.c13 BK175.out)) (fun hHeld => ?_)
          clear hK K
          refine norm_ (a' := ?_) ?_ ?_
          rotate_left
          ·show Act.put _ (some 60) _ = _; simp only [Act.put, List.setIfInBounds_toArray, List.set_cons_zero, List.set_cons_succ, i64_w, i32_w]; rfl
          refine pure_ (i := 6) (N := some 61) (v := ?_) (a' := ?_) #[true, true, true, true, true, true, true, false, false, false, false, false, false, false] rfl rfl (any_of HT_.out (by kernel_rfl)) (fun _ _ _ h => h) (Or.inl ⟨by rfl, ?_⟩) ?_ ?_
          rotate_left
          ·intro w'; go_simp; with_reducible rfl
          rotate_left
          ·simp only [Act.put, List.setIfInBounds_toArray, List.set_cons_zero, List.set_cons_succ, i64_w, i32_w]; rfl
          refine two_ (i := 7) (j := 11) (Ni := some 62) (Nj := some 10) #[true, true, true, true, true, true, true, true, false, false, false, false, false, false] #[true, true, true, true, true, true, true, false, false, false, false, true, false, false] rfl rfl rfl rfl (two_of HT_.out (by kernel_rfl)) (by decide) (by decide) (fun K hK => ?_) (fun K hK => ?_)
          ·skip
           refine goes_ Try.func14 (by kernel_rfl) rfl #[.agg #[.int .i64 x172000_1, .int .i64 x172001_1, .bool x172002_1, .int .i64 x172003_1, .int .i64 x172004_1, .int .i64 x172005_1, .bool x172006_1, .int .i64 x172007_1, .int .i64 x172008_1], .bool ((rd_T29 l0_0 x7_1).f1), .int .i64 (wrap64 (1 + t177))] (by rfl) rfl rfl Sq.m ?_
           with_reducible refine (drv_Set.calls kj9 x172000_1 x172001_1 x172002_1 x172003_1 x172004_1 x172005_1 x172006_1 x172007_1 x172008_1 ((rd_T29 l0_0 x7_1).f1) (wrap64 (1 + t177)) t178 t179 t180 t181 t182 t183 t184 t185 t186 t187 _ A36.out).mono ?_
           rintro e w67 ⟨rfl, hb⟩
           refine ⟨_, rfl, ?_⟩
           replace BK160 := Sq.sb BK160 hb; replace BK171 := Sq.sb BK171 hb; replace BK175 := Sq.sb BK175 hb; replace HB := Sq.sw HB hb
           (try clear hb)
           (try clear hb2)
           (try clear hk)
           (try clear hi)
           refine hK.out _ _ (Sq.j9 BK171.out (Sq.c13 BK175.out)) (fun hHeld => ?_)
           clear hK K
           refine norm_ (a' := ?_) ?_ ?_
           rotate_left
           ·show Act.put _ (some 62) _ = _; simp only [Act.put, List.setIfInBounds_toArray, List.set_cons_zero, List.set_cons_succ, i64_w, i32_w]; rfl
           refine pure_ (i := 8) (N := some 54) (v := ?_) (a' := ?_) #[true, true, true, true, true, true, true, true, true, false, false, false, false, false] rfl rfl (any_of HT_.out (by kernel_rfl)) (fun _ _ _ h => h) (Or.inl ⟨by rfl, ?_⟩) ?_ ?_
           rotate_left
           ·intro w'; go_simp; with_reducible rfl
           rotate_left
           ·simp only [Act.put, List.setIfInBounds_toArray, List.set_cons_zero, List.set_cons_succ, i64_w, i32_w]; rfl
           refine pure_ (i := 9) (N := some 63) (v := ?_) (a' := ?_) #[true, true, true, true, true, true, true, true, true, true, false, false, false, false] rfl rfl (any_of HT_.out (by kernel_rfl)) (fun _ _ _ h => h) (Or.inl ⟨by rfl, ?_⟩) ?_ ?_
           rotate_left
           ·intro w'; go_simp; with_reducible rfl
           rotate_left
           ·simp only [Act.put, List.setIfInBounds_toArray, List.set_cons_zero, List.set_cons_succ, i64_w, i32_w]; rfl
           refine pure_ (i := 10) (N := some 64) (v := ?_) (a' := ?_) #[true, true, true, true, true, true, true, true, true, true, true, false, false, false] rfl rfl (any_of HT_.out (by kernel_rfl)) (fun _ _ _ h => h) (Or.inl ⟨by rfl, ?_⟩) ?_ ?_
           rotate_left
           ·intro w'; go_simp; with_reducible rfl
           rotate_left
           ·simp only [Act.put, List.setIfInBounds_toArray, List.set_cons_zero, List.set_cons_succ, i64_w, i32_w]; rfl
           refine one_ (i := 11) (N := some 10) #[true, true, true, true, true, true, true, true, true, true, true, true, false, false] rfl rfl (one_of HT_.out (by kernel_rfl)) (by decide) (fun K hK => ?_)
           refine box_step ?hg (N := 10) ?hd (cs := #[.int .i64 0, .int .i64 0, .bool false, .int .i64 0, .int .i64 0, .int .i64 0, .bool false, .int .i64 0, .int .i64 0]) (t := 24) ?hr ?_; (case hd => rfl); (case hg => rfl); (case hr => first | (go_simp; done) | (go_simp; rfl))
           intro gb188 hg w68 hbox hb
           have BK188 := Aside0.mk hbox; have GW188 := Sq.ge hg HB; have GE188 := Sq.ge hg HB; obtain ⟨NB160_188, NB188_160⟩ := Sq.np hg BK160; obtain ⟨NB171_188, NB188_171⟩ := Sq.np hg BK171; obtain ⟨NB175_188, NB188_175⟩ := Sq.np hg BK175; replace BK160 := Sq.sb BK160 hb; replace BK171 := Sq.sb BK171 hb; replace BK175 := Sq.sb BK175 hb; replace HB := Sq.sw HB hb
           clear hb hbox hg
           refine hK.out _ _ (Sq.j9 BK171.out (Sq.c13 BK175.out)) (fun hHeld => ?_)
           clear hK K
           refine norm_ (a' := ?_) ?_ ?_
           rotate_left
           ·show Act.put _ (some 10) _ = _; simp only [Act.put, List.setIfInBounds_toArray, List.set_cons_zero, List.set_cons_succ, i64_w, i32_w]; rfl
           exact norm_ (by simp only [putAll, Act.put, List.setIfInBounds_toArray, List.set_cons_zero, List.set_cons_succ]) (hCont (gb188) _ ⟨hHeld, (Sq.b BK160.out), (Sq.b BK171.out), (Sq.b BK175.out), (Sq.b BK188.out), GW188.out, GE188.out, NB160_188.out, NB188_160.out, NB171_188.out, NB188_171.out, NB175_188.out, NB188_175.out, (Sq.w HB.out)⟩)
          ·skip
           refine box_step ?hg (N := 10) ?hd (cs := #[.int .i64 0, .int .i64 0, .bool false, .int .i64 0, .int .i64 0, .int .i64 0, .bool false, .int .i64 0, .int .i64 0]) (t := 24) ?hr ?_; (case hd => rfl); (case hg => rfl); (case hr => first | (go_simp; done) | (go_simp; rfl))
           intro gb188 hg w67 hbox hb
           have BK188 := Aside0.mk hbox; have GW188 := Sq.ge hg HB; have GE188 := Sq.ge hg HB; obtain ⟨NB160_188, NB188_160⟩ := Sq.np hg BK160; obtain ⟨NB171_188, NB188_171⟩ := Sq.np hg BK171; obtain ⟨NB175_188, NB188_175⟩ := Sq.np hg BK175; replace BK160 := Sq.sb BK160 hb; replace BK171 := Sq.sb BK171 hb; replace BK175 := Sq.sb BK175 hb; replace HB := Sq.sw HB hb
           clear hb hbox hg
           refine hK.out _ _ (Sq.j9 BK171.out (Sq.c13 BK175.out)) (fun hHeld => ?_)
           clear hK K
           refine norm_ (a' := ?_) ?_ ?_
           rotate_left
           ·show Act.put _ (some 10) _ = _; simp only [Act.put, List.setIfInBounds_toArray, List.set_cons_zero, List.set_cons_succ, i64_w, i32_w]; rfl
           refine one_ (i := 7) (N := some 62) #[true, true, true, true, true, true, true, true, false, false, false, true, false, false] rfl rfl (one_of HT_.out (by kernel_rfl)) (by decide) (fun K hK => ?_)
           refine goes_ Try.func14 (by kernel_rfl) rfl #[.agg #[.int .i64 x172000_1, .int .i64 x172001_1, .bool x172002_1, .int .i64 x172003_1, .int .i64 x172004_1, .int .i64 x172005_1, .bool x172006_1, .int .i64 x172007_1, .int .i64 x172008_1], .bool ((rd_T29 l0_0 x7_1).f1), .int .i64 (wrap64 (1 + t177))] (by rfl) rfl rfl Sq.m ?_
           with_reducible refine (drv_Set.calls kj9 x172000_1 x172001_1 x172002_1 x172003_1 x172004_1 x172005_1 x172006_1 x172007_1 x172008_1 ((rd_T29 l0_0 x7_1).f1) (wrap64 (1 + t177)) t178 t179 t180 t181 t182 t183 t184 t185 t186 t187 _ A36.out).mono ?_
           rintro e w68 ⟨rfl, hb⟩
           refine ⟨_, rfl, ?_⟩
           replace BK160 := Sq.sb BK160 hb; replace BK171 := Sq.sb BK171 hb; replace BK175 := Sq.sb BK175 hb; replace BK188 := Sq.sb BK188 hb; replace HB := Sq.sw HB hb
           (try clear hb)
           (try clear hb2)
           (try clear hk)
           (try clear hi)
           refine hK.out _ _ (Sq.j9 BK171.out (Sq.c13 BK175.out)) (fun hHeld => ?_)
           clear hK K
           refine norm_ (a' := ?_) ?_ ?_
           rotate_left
           ·show Act.put _ (some 62) _ = _; simp only [Act.put, List.setIfInBounds_toArray, List.set_cons_zero, List.set_cons_succ, i64_w, i32_w]; rfl
           refine pure_ (i := 8) (N := some 54) (v := ?_) (a' := ?_) #[true, true, true, true, true, true, true, true, true, false, false, true, false, false] rfl rfl (any_of HT_.out (by kernel_rfl)) (fun _ _ _ h => h) (Or.inl ⟨by rfl, ?_⟩) ?_ ?_
           rotate_left
           ·intro w'; go_simp; with_reducible rfl
           rotate_left
           ·simp only [Act.put, List.setIfInBounds_toArray, List.set_cons_zero, List.set_cons_succ, i64_w, i32_w]; rfl
           refine pure_ (i := 9) (N := some 63) (v := ?_) (a' := ?_) #[true, true, true, true, true, true, true, true, true, true, false, true, false, false] rfl rfl (any_of HT_.out (by kernel_rfl)) (fun _ _ _ h => h) (Or.inl ⟨by rfl, ?_⟩) ?_ ?_
           rotate_left
           ·intro w'; go_simp; with_reducible rfl
           rotate_left
           ·simp only [Act.put, List.setIfInBounds_toArray, List.set_cons_zero, List.set_cons_succ, i64_w, i32_w]; rfl
           refine pure_ (i := 10) (N := some 64) (v := ?_) (a' := ?_) #[true, true, true, true, true, true, true, true, true, true, true, true, false, false] rfl rfl (any_of HT_.out (by kernel_rfl)) (fun _ _ _ h => h) (Or.inl ⟨by rfl, ?_⟩) ?_ ?_
           rotate_left
           ·intro w'; go_simp; with_reducible rfl
           rotate_left
           ·simp only [Act.put, List.setIfInBounds_toArray, List.set_cons_zero, List.set_cons_succ, i64_w, i32_w]; rfl
           exact norm_ (by simp only [putAll, Act.put, List.setIfInBounds_toArray, List.set_cons_zero, List.set_cons_succ]) (hCont (gb188) _ ⟨hHeld, (Sq.b BK160.out), (Sq.b BK171.out), (Sq.b BK175.out), (Sq.b BK188.out), GW188.out, GE188.out, NB160_188.out, NB188_160.out, NB171_188.out, NB188_171.out, NB175_188.out, NB188_175.out, (Sq.w HB.out)⟩)
         ·skip
          refine box_step ?hg (N := 10) ?hd (cs := #[.int .i64 0, .int .i64 0, .bool false, .int .i64 0, .int .i64 0, .int .i64 0, .bool false, .int .i64 0, .int .i64 0]) (t := 24) ?hr ?_; (case hd => rfl); (case hg => rfl); (case hr => first | (go_simp; done) | (go_simp; rfl))
          intro gb188 hg w67 hbox hb
          have BK188 := Aside0.mk hbox; have GW188 := Sq.ge hg HB; have GE188 := Sq.ge hg HB; obtain ⟨NB160_188, NB188_160⟩ := Sq.np hg BK160; obtain ⟨NB171_188, NB188_171⟩ := Sq.np hg BK171; obtain ⟨NB175_188, NB188_175⟩ := Sq.np hg BK175; replace BK160 := Sq.sb BK160 hb; replace BK171 := Sq.sb BK171 hb; replace BK175 := Sq.sb BK175 hb; replace HB := Sq.sw HB hb
          clear hb hbox hg
          refine hK.out _ _ (Sq.j9 BK171.out (Sq.c13 BK175.out)) (fun hHeld => ?_)
          clear hK K
          refine norm_ (a' := ?_) ?_ ?_
          rotate_left
          ·show Act.put _ (some 10) _ = _; simp only [Act.put, List.setIfInBounds_toArray, List.set_cons_zero, List.set_cons_succ, i64_w, i32_w]; rfl
          refine one_ (i := 5) (N := some 60) #[true, true, true, true, true, true, false, false, false, false, false, true, false, false] rfl rfl (one_of HT_.out (by kernel_rfl)) (by decide) (fun K hK => ?_)
          refine goes_ Try.func17 (by kernel_rfl) rfl #[.int .i64 ((rd_T29 l0_0 x7_1).f2), .int .i64 250] (by rfl) rfl rfl Sq.m ?_
          with_reducible refine (gimballaw0_Within.calls ((rd_T29 l0_0 x7_1).f2) 250 t177 _ A35.out).mono ?_
          rintro e w' ⟨rfl, ⟨nd, rfl⟩⟩
          refine ⟨_, rfl, ?_⟩
          refine hK.out _ _ (Sq.j9 BK171.out (Sq.c13 BK175.out)) (fun hHeld => ?_)
          clear hK K
          refine norm_ (a' := ?_) ?_ ?_
          rotate_left
          ·show Act.put _ (some 60) _ = _; simp only [Act.put, List.setIfInBounds_toArray, List.set_cons_zero, List.set_cons_succ, i64_w, i32_w]; rfl
          refine pure_ (i := 6) (N := some 61) (v := ?_) (a' := ?_) #[true, true, true, true, true, true, true, false, false, false, false, true, false, false] rfl rfl (any_of HT_.out (by kernel_rfl)) (fun _ _ _ h => h) (Or.inl ⟨by rfl, ?_⟩) ?_ ?_
          rotate_left
          ·intro w'; go_simp; with_reducible rfl
          rotate_left
          ·simp only [Act.put, List.setIfInBounds_toArray, List.set_cons_zero, List.set_cons_succ, i64_w, i32_w]; rfl
          refine one_ (i := 7) (N := some 62) #[true, true, true, true, true, true, true, true, false, false, false, true, false, false] rfl rfl (one_of HT_.out (by kernel_rfl)) (by decide) (fun K hK => ?_)
          refine goes_ Try.func14 (by kernel_rfl) rfl #[.agg #[.int .i64 x172000_1, .int .i64 x172001_1, .bool x172002_1, .int .i64 x172003_1, .int .i64 x172004_1, .int .i64 x172005_1, .bool x172006_1, .int .i64 x172007_1, .int .i64 x172008_1], .bool ((rd_T29 l0_0 x7_1).f1), .int .i64 (wrap64 (1 + t177))] (by rfl) rfl rfl Sq.m ?_
          with_reducible refine (drv_Set.calls kj9 x172000_1 x172001_1 x172002_1 x172003_1 x172004_1 x172005_1 x172006_1 x172007_1 x172008_1 ((rd_T29 l0_0 x7_1).f1) (wrap64 (1 + t177)) t178 t179 t180 t181 t182 t183 t184 t185 t186 t187 _ A36.out).mono ?_
          rintro e w68 ⟨rfl, hb⟩
          refine ⟨_, rfl, ?_⟩
          replace BK160 := Sq.sb BK160 hb; replace BK171 := Sq.sb BK171 hb; replace BK175 := Sq.sb BK175 hb; replace BK188 := Sq.sb BK188 hb; replace HB := Sq.sw HB hb
          (try clear hb)
          (try clear hb2)
          (try clear hk)
          (try clear hi)
          refine hK.out _ _ (Sq.j9 BK171.out (Sq.c13 BK175.out)) (fun hHeld => ?_)
          clear hK K
          refine norm_ (a' := ?_) ?_ ?_
          rotate_left
          ·show Act.put _ (some 62) _ = _; simp only [Act.put, List.setIfInBounds_toArray, List.set_cons_zero, List.set_cons_succ, i64_w, i32_w]; rfl
          refine pure_ (i := 8) (N := some 54) (v := ?_) (a' := ?_) #[true, true, true, true, true, true, true, true, true, false, false, true, false, false] rfl rfl (any_of HT_.out (by kernel_rfl)) (fun _ _ _ h => h) (Or.inl ⟨by rfl, ?_⟩) ?_ ?_
          rotate_left
          ·intro w'; go_simp; with_reducible rfl
          rotate_left
          ·simp only [Act.put, List.setIfInBounds_toArray, List.set_cons_zero, List.set_cons_succ, i64_w, i32_w]; rfl
          refine pure_ (i := 9) (N := some 63) (v := ?_) (a' := ?_) #[true, true, true, true, true, true, true, true, true, true, false, true, false, false] rfl rfl (any_of HT_.out (by kernel_rfl)) (fun _ _ _ h => h) (Or.inl ⟨by rfl, ?_⟩) ?_ ?_
          rotate_left
          ·intro w'; go_simp; with_reducible rfl
          rotate_left
          ·simp only [Act.put, List.setIfInBounds_toArray, List.set_cons_zero, List.set_cons_succ, i64_w, i32_w]; rfl
          refine pure_ (i := 10) (N := some 64) (v := ?_) (a' := ?_) #[true, true, true, true, true, true, true, true, true, true, true, true, false, false] rfl rfl (any_of HT_.out (by kernel_rfl)) (fun _ _ _ h => h) (Or.inl ⟨by rfl, ?_⟩) ?_ ?_
          rotate_left
          ·intro w'; go_simp; with_reducible rfl
          rotate_left
          ·simp only [Act.put, List.setIfInBounds_toArray, List.set_cons_zero, List.set_cons_succ, i64_w, i32_w]; rfl
          exact norm_ (by simp only [putAll, Act.put, List.setIfInBounds_toArray, List.set_cons_zero, List.set_cons_succ]) (hCont (gb188) _ ⟨hHeld, (Sq.b BK160.out), (Sq.b BK171.out), (Sq.b BK175.out), (Sq.b BK188.out), GW188.out, GE188.out, NB160_188.out, NB188_160.out, NB171_188.out, NB188_171.out, NB175_188.out, NB188_175.out, (Sq.w HB.out)⟩)
        rintro gb188 w69 ⟨hS_, h0_, h1_, h2_, h3_, h4_, h5_, h6_, h7_, h8_, h9_, h10_, h11_, h12_⟩
        have n0_ : Aside0 (w69.heap[gb160]? = some (.cells #[.slice (some ad174) l0_0.length c0_0] 44 (0, 0))) := ⟨h0_⟩
        have n1_ : Aside0 (w69.heap[gb171]? = some (.cells #[.int .i64 x172000_1, .int .i64 x172001_1, .bool x172002_1, .int .i64 x172003_1, .int .i64 x172004_1, .int .i64 x172005_1, .bool x172006_1, .int .i64 x172007_1, .int .i64 x172008_1] 24 (0, 0))) := ⟨h1_⟩
        have n2_ : Aside0 (w69.heap[gb175]? = some (.cells #[.int .i64 ((rd_T29 l0_0 x7_1).f0.f0), .int .i64 ((rd_T29 l0_0 x7_1).f0.f1), .bool ((rd_T29 l0_0 x7_1).f0.f2), .int .i64 ((rd_T29 l0_0 x7_1).f0.f3), .int .i64 ((rd_T29 l0_0 x7_1).f0.f4), .int .i64 ((rd_T29 l0_0 x7_1).f0.f5), .bool ((rd_T29 l0_0 x7_1).f0.f6), .int .i64 ((rd_T29 l0_0 x7_1).f0.f7), .int .i64 ((rd_T29 l0_0 x7_1).f0.f8), .bool ((rd_T29 l0_0 x7_1).f1), .int .i64 ((rd_T29 l0_0 x7_1).f2), .int .i64 ((rd_T29 l0_0 x7_1).f3.f0), .slice A174_12 ((rd_T29 l0_0 x7_1).f3.f1).length c174_12] 29 (0, 0))) := ⟨h2_⟩
        have n3_ : Aside0 (w69.heap[gb188]? = some (.cells #[.int .i64 0, .int .i64 0, .bool false, .int .i64 0, .int .i64 0, .int .i64 0, .bool false, .int .i64 0, .int .i64 0] 24 (0, 0))) := ⟨h3_⟩
        have n4_ : Aside0 (w.heap.size ≤ gb188) := ⟨h4_⟩
        have n5_ : Aside0 (w.heap.size ≤ gb188) := ⟨h5_⟩
        have n6_ : Aside0 (gb160 ≠ gb188) := ⟨h6_⟩
        have n7_ : Aside0 (gb188 ≠ gb160) := ⟨h7_⟩
        have n8_ : Aside0 (gb171 ≠ gb188) := ⟨h8_⟩
        have n9_ : Aside0 (gb188 ≠ gb171) := ⟨h9_⟩
        have n10_ : Aside0 (gb175 ≠ gb188) := ⟨h10_⟩
        have n11_ : Aside0 (gb188 ≠ gb175) := ⟨h11_⟩
        have n12_ : Aside0 (Below w.heap.size w w69) := ⟨h12_⟩
        clear BK160 BK171 BK175 HB h0_ h1_ h2_ h3_ h4_ h5_ h6_ h7_ h8_ h9_ h10_ h11_ h12_; have BK160 := n0_; have BK171 := n1_; have BK175 := n2_; have BK188 := n3_; have GW188 := n4_; have GE188 := n5_; have NB160_188 := n6_; have NB188_160 := n7_; have NB171_188 := n8_; have NB188_171 := n9_; have NB175_188 := n10_; have NB188_175 := n11_; have HB := n12_; clear n0_ n1_ n2_ n3_ n4_ n5_ n6_ n7_ n8_ n9_ n10_ n11_ n12_
        have hHeld : w69.cell? ⟨gb171, 0, none⟩ = some (.int .i64 x172000_1) ∧ w69.cell? ⟨gb171, 1, none⟩ = some (.int .i64 x172001_1) ∧ w69.cell? ⟨gb171, 2, none⟩ = some (.bool x172002_1) ∧ w69.cell? ⟨gb171, 3, none⟩ = some (.int .i64 x172003_1) ∧ w69.cell? ⟨gb171, 4, none⟩ = some (.int .i64 x172004_1) ∧ w69.cell? ⟨gb171, 5, none⟩ = some (.int .i64 x172005_1) ∧ w69.cell? ⟨gb171, 6, none⟩ = some (.bool x172006_1) ∧ w69.cell? ⟨gb171, 7, none⟩ = some (.int .i64 x172007_1) ∧ w69.cell? ⟨gb171, 8, none⟩ = some (.int .i64 x172008_1) ∧ w69.cell? ⟨gb175, 0, none⟩ = some (.int .i64 ((rd_T29 l0_0 x7_1).f0.f0)) ∧ w69.cell? ⟨gb175, 1, none⟩ = some (.int .i64 ((rd_T29 l0_0 x7_1).f0.f1)) ∧ w69.cell? ⟨gb175, 2, none⟩ = some (.bool ((rd_T29 l0_0 x7_1).f0.f2)) ∧ w69.cell? ⟨gb175, 3, none⟩ = some (.int .i64 ((rd_T29 l0_0 x7_1).f0.f3)) ∧ w69.cell? ⟨gb175, 4, none⟩ = some (.int .i64 ((rd_T29 l0_0 x7_1).f0.f4)) ∧ w69.cell? ⟨gb175, 5, none⟩ = some (.int .i64 ((rd_T29 l0_0 x7_1).f0.f5)) ∧ w69.cell? ⟨gb175, 6, none⟩ = some (.bool ((rd_T29 l0_0 x7_1).f0.f6)) ∧ w69.cell? ⟨gb175, 7, none⟩ = some (.int .i64 ((rd_T29 l0_0 x7_1).f0.f7)) ∧ w69.cell? ⟨gb175, 8, none⟩ = some (.int .i64 ((rd_T29 l0_0 x7_1).f0.f8)) ∧ w69.cell? ⟨gb175, 9, none⟩ = some (.bool ((rd_T29 l0_0 x7_1).f1)) ∧ w69.cell? ⟨gb175, 10, none⟩ = some (.int .i64 ((rd_T29 l0_0 x7_1).f2)) ∧ w69.cell? ⟨gb175, 11, none⟩ = some (.int .i64 ((rd_T29 l0_0 x7_1).f3.f0)) ∧ w69.cell? ⟨gb175, 12, none⟩ = some (.slice A174_12 ((rd_T29 l0_0 x7_1).f3.f1).length c174_12) := hS_
        refine norm_ (a' := ?_) ?_ ?_
        rotate_left
        ·simp only [putAll, Act.put, List.setIfInBounds_toArray, List.set_cons_zero, List.set_cons_succ]
         rfl
        refine one_ (i := 12) (N := none) #[true, true, true, true, true, true, true, true, true, true, true, true, true, false] rfl rfl (one_of HT_.out (by kernel_rfl)) (by decide) (fun K hK => ?_)
        have hs70 : w69.cell? ⟨gb188, 0, none⟩ = some (.int .i64 0) := (blk_cell BK188.out 0).trans rfl
        have hfs70 := blk_frozen BK188.out 0
        have hns70_0 := NB160_188.out; have hns70_1 := NB171_188.out; have hns70_2 := NB175_188.out
        have hms70_0 := NB188_160.out
        have hms70_1 := NB188_171.out
        have hms70_2 := NB188_175.out
        have hs71 : w69.cell? ⟨gb188, 1, none⟩ = some (.int .i64 0) := (blk_cell BK188.out 1).trans rfl
        have hfs71 := blk_frozen BK188.out 1
        have hns71_0 := NB160_188.out; have hns71_1 := NB171_188.out; have hns71_2 := NB175_188.out
        have hms71_0 := NB188_160.out
        have hms71_1 := NB188_171.out
        have hms71_2 := NB188_175.out
        have hs72 : w69.cell? ⟨gb188, 2, none⟩ = some (.bool false) := (blk_cell BK188.out 2).trans rfl
        have hfs72 := blk_frozen BK188.out 2
        have hns72_0 := NB160_188.out; have hns72_1 := NB171_188.out; have hns72_2 := NB175_188.out
        have hms72_0 := NB188_160.out
        have hms72_1 := NB188_171.out
        have hms72_2 := NB188_175.out
        have hs73 : w69.cell? ⟨gb188, 3, none⟩ = some (.int .i64 0) := (blk_cell BK188.out 3).trans rfl
        have hfs73 := blk_frozen BK188.out 3
        have hns73_0 := NB160_188.out; have hns73_1 := NB171_188.out; have hns73_2 := NB175_188.out
        have hms73_0 := NB188_160.out
        have hms73_1 := NB188_171.out
        have hms73_2 := NB188_175.out
        have hs74 : w69.cell? ⟨gb188, 4, none⟩ = some (.int .i64 0) := (blk_cell BK188.out 4).trans rfl
        have hfs74 := blk_frozen BK188.out 4
        have hns74_0 := NB160_188.out; have hns74_1 := NB171_188.out; have hns74_2 := NB175_188.out
        have hms74_0 := NB188_160.out
        have hms74_1 := NB188_171.out
        have hms74_2 := NB188_175.out
        have hs75 : w69.cell? ⟨gb188, 5, none⟩ = some (.int .i64 0) := (blk_cell BK188.out 5).trans rfl
        have hfs75 := blk_frozen BK188.out 5
        have hns75_0 := NB160_188.out; have hns75_1 := NB171_188.out; have hns75_2 := NB175_188.out
        have hms75_0 := NB188_160.out
        have hms75_1 := NB188_171.out
        have hms75_2 := NB188_175.out
        have hs76 : w69.cell? ⟨gb188, 6, none⟩ = some (.bool false) := (blk_cell BK188.out 6).trans rfl
        have hfs76 := blk_frozen BK188.out 6
        have hns76_0 := NB160_188.out; have hns76_1 := NB171_188.out; have hns76_2 := NB175_188.out
        have hms76_0 := NB188_160.out
        have hms76_1 := NB188_171.out
        have hms76_2 := NB188_175.out
        have hs77 : w69.cell? ⟨gb188, 7, none⟩ = some (.int .i64 0) := (blk_cell BK188.out 7).trans rfl
        have hfs77 := blk_frozen BK188.out 7
        have hns77_0 := NB160_188.out; have hns77_1 := NB171_188.out; have hns77_2 := NB175_188.out
        have hms77_0 := NB188_160.out
        have hms77_1 := NB188_171.out
        have hms77_2 := NB188_175.out
        have hs78 : w69.cell? ⟨gb188, 8, none⟩ = some (.int .i64 0) := (blk_cell BK188.out 8).trans rfl
        have hfs78 := blk_frozen BK188.out 8
        have hns78_0 := NB160_188.out; have hns78_1 := NB171_188.out; have hns78_2 := NB175_188.out
        have hms78_0 := NB188_160.out
        have hms78_1 := NB188_171.out
        have hms78_2 := NB188_175.out
        refine skip_ (w1 := ?_) (by rfl) rfl ?_ ?_
        rotate_left
        ·go_simp
         rfl
        refine hK.out _ _ (Sq.hold hHeld) (fun hHeld => ?_)
        clear hK K
        refine pure_ (i := 13) (N := some 11) (v := ?_) (a' := ?_) #[true, true, true, true, true, true, true, true, true, true, true, true, true, true] rfl rfl (any_of HT_.out (by kernel_rfl)) (fun _ _ _ h => h) (Or.inl ⟨by rfl, ?_⟩) ?_ ?_
        rotate_left
        ·intro w'; go_simp; with_reducible rfl
        rotate_left
        ·simp only [Act.put, List.setIfInBounds_toArray, List.set_cons_zero, List.set_cons_succ, i64_w, i32_w]; rfl
        refine done_ (done_of HT_.out (by kernel_rfl)) ?_
        try go_wp2_with (first | ((with_reducible refine gate_callee (f := 11) rfl ?_); refine goesL_ (some 66) rfl rfl Try.func11 (by kernel_rfl) rfl #[.int .i64 t187] rfl Sq.m ?_; (with_reducible refine (gimballaw9_num.calls t187 t189 _ A37.out).mono ?_); rintro e w' ⟨rfl, ⟨nd, rfl⟩⟩; refine ⟨_, rfl, ?_⟩; have b79 := NB188_160.out; have d79 := NB160_188.out; have b80 := NB188_171.out; have d80 := NB171_188.out; have b81 := NB188_175.out; have d81 := NB175_188.out; obtain ⟨z82_0, z82_1, z82_2, z82_3, z82_4, z82_5, z82_6, z82_7, z82_8⟩ := Sq.c9 BK188.out; obtain ⟨y82_0, y82_1, y82_2, y82_3, y82_4, y82_5, y82_6, y82_7, y82_8⟩ := Sq.f9 BK188.out; obtain ⟨z83_0, z83_1, z83_2, z83_3, z83_4, z83_5, z83_6, z83_7, z83_8⟩ := Sq.c9 BK171.out; obtain ⟨y83_0, y83_1, y83_2, y83_3, y83_4, y83_5, y83_6, y83_7, y83_8⟩ := Sq.f9 BK171.out))
        refine Cu.meet (by assumption) ?_ (by kernel_rfl) (by kernel_rfl)
        try dsimp only [Cu.pick, Cu.nth]
        exact ⟨_, (0), (t178), (t179), (t180), (t181), (t182), (t183), (t184), (t185), (t186), Sq.e, H', ⟨by have := HK1.out; have := HJ9.out; first | omega | exact Nat.le_refl _⟩, ⟨Sq.F BK160.out⟩, ⟨Sq.B BK171.out⟩, ⟨Sq.F BK175.out⟩, ⟨Sq.w HB.out⟩⟩
       rw [if_neg c34] at H
       have c34b0 : (t176 == 0) = false := beq_eq_false_iff_ne.mpr c34
       have c34b1 : (t176 != 0) = true := bne_iff_ne.mpr c34
       (first | rw [c34b0] | (simp only [i64_w, i32_w]; rw [c34b0]) | skip)
       have H' := Aside0.mk H
       clear H
       go_wp2
       refine Cu.meet (by assumption) ?_ (by kernel_rfl) (by kernel_rfl)
       try dsimp only [Cu.pick, Cu.nth]
       exact ⟨_, (x5_1), (x172000_1), (x172001_1), (x172002_1), (x172003_1), (x172004_1), (x172005_1), (x172006_1), (x172007_1), (x172008_1), Sq.e, H', ⟨by have := HK1.out; have := HJ9.out; first | omega | exact Nat.le_refl _⟩, ⟨Sq.F BK160.out⟩, ⟨Sq.F BK171.out⟩, ⟨Sq.B BK175.out⟩, ⟨Sq.w HB.out⟩⟩
      ·
       intro wc u2 u5 u9 u10 u11 u27 u28 u29 u30 u31 u32 u33 u34 u35 u36 u37 u38 u39 u40 u41 u42 u43 u44 u45 u46 u47 u48 u49 u50 u51 u52 u53 u54 u55 u56 u57 u58 u59 u60 u61 u62 u63 u64 u65 u66 u67 u68 u69 u70 u71 u72 u73 u74 u75 u76 u77 u78 u79 u80 u81 u82 u83 u84 u85 u86 u87 u88 u89 u90 u91 u92 u93 u94 u95 u96 u97 u98 u99 u100 u101 u102 u103 u104 u105 u106 u107 u108 u109 u110 u111 u112 u113 u114 u115 u116 u117 u118 u119 u120 u121 u122 u123 u124 u125 u126 u127 u128 u129 u130 u131 u132 u133 u134 u135 u136 u137 u138 u139 u140 u141 u142 u143 u144 u145 u146 u147 u148 u150 u151 u152 u153 u154 u155 u156 u157 u158 u159 u160 u161 u162 u163 u164 u165 u166 u167 u168 u169 u170 u171 u172 u173 u174 u175 u176 u177 u178 u179 u180 u181 u182 u183 u184 u185 u186 u187 u188 u189 u190 u191 u192 u193 u194 u195 u196 u197 u198 u199 u200 u201 u202
       try dsimp only [Cu.over, Cu.nth]
       intro hcut
       clear HC27
       obtain ⟨kq, x5_26, x172000_26, x172001_26, x172002_26, x172003_26, x172004_26, x172005_26, x172006_26, x172007_26, x172008_26, rfl, HA, HJ26, BK160, BK171, BK175, HB⟩ := hcut
       cases kq with
       | zero => exact absurd HA.out (by simp [gimballaw9_DrvFails.j2])
       | succ kj26 =>
        have H := HA.out
        clear HA
        simp only [gimballaw9_DrvFails.j2] at H
        replace H := Option.bind_eq_some_iff.mp H
        obtain ⟨⟨t190, t191, t192, t195, t196, t197⟩, A840, H⟩ := H
        replace H : ((gimballaw9_num.f t197).bind fun t199 => (if t199 = 0 then (if x172004_26 = 0 then (gimballaw9_DrvFails.j3 kj26 x5_26 x6_1 x7_1 t196 (t196 == true) l0_0 x172000_26 x172001_26 x172002_26 x172003_26 x172004_26 x172005_26 x172006_26 x172007_26 x172008_26 ((rd_T29 l0_0 x7_1).f0.f0) ((rd_T29 l0_0 x7_1).f0.f1) ((rd_T29 l0_0 x7_1).f0.f2) ((rd_T29 l0_0 x7_1).f0.f3) ((rd_T29 l0_0 x7_1).f0.f4) ((rd_T29 l0_0 x7_1).f0.f5) ((rd_T29 l0_0 x7_1).f0.f6) ((rd_T29 l0_0 x7_1).f0.f7) ((rd_T29 l0_0 x7_1).f0.f8) ((rd_T29 l0_0 x7_1).f1) ((rd_T29 l0_0 x7_1).f2) ((rd_T29 l0_0 x7_1).f3.f0) ((rd_T29 l0_0 x7_1).f3.f1) t190 t191 t192 t195) else (gimballaw9_DrvFails.j3 kj26 x5_26 x6_1 x7_1 t196 (t196 == (x172004_26 == 8)) l0_0 x172000_26 x172001_26 x172002_26 x172003_26 x172004_26 x172005_26 x172006_26 x172007_26 x172008_26 ((rd_T29 l0_0 x7_1).f0.f0) ((rd_T29 l0_0 x7_1).f0.f1) ((rd_T29 l0_0 x7_1).f0.f2) ((rd_T29 l0_0 x7_1).f0.f3) ((rd_T29 l0_0 x7_1).f0.f4) ((rd_T29 l0_0 x7_1).f0.f5) ((rd_T29 l0_0 x7_1).f0.f6) ((rd_T29 l0_0 x7_1).f0.f7) ((rd_T29 l0_0 x7_1).f0.f8) ((rd_T29 l0_0 x7_1).f1) ((rd_T29 l0_0 x7_1).f2) ((rd_T29 l0_0 x7_1).f3.f0) ((rd_T29 l0_0 x7_1).f3.f1) t190 t191 t192 t195)) else (gimballaw9_DrvFails.j3 kj26 x5_26 x6_1 x7_1 t196 true l0_0 x172000_26 x172001_26 x172002_26 x172003_26 x172004_26 x172005_26 x172006_26 x172007_26 x172008_26 ((rd_T29 l0_0 x7_1).f0.f0) ((rd_T29 l0_0 x7_1).f0.f1) ((rd_T29 l0_0 x7_1).f0.f2) ((rd_T29 l0_0 x7_1).f0.f3) ((rd_T29 l0_0 x7_1).f0.f4) ((rd_T29 l0_0 x7_1).f0.f5) ((rd_T29 l0_0 x7_1).f0.f6) ((rd_T29 l0_0 x7_1).f0.f7) ((rd_T29 l0_0 x7_1).f0.f8) ((rd_T29 l0_0 x7_1).f1) ((rd_T29 l0_0 x7_1).f2) ((rd_T29 l0_0 x7_1).f3.f0) ((rd_T29 l0_0 x7_1).f3.f1) t190 t191 t192 t195))) = some r := H
        have A84 := Aside0.mk A840
        clear A840
        have HC85 := Aside0.mk H
        clear H; have b86 := NB171_160.out; have d86 := NB160_171.out; have b87 := NB171_175.out; have d87 := NB175_171.out
        obtain ⟨z88_0, z88_1, z88_2, z88_3, z88_4, z88_5, z88_6, z88_7, z88_8⟩ := Sq.c9 BK171.out
        obtain ⟨y88_0, y88_1, y88_2, y88_3, y88_4, y88_5, y88_6, y88_7, y88_8⟩ := Sq.f9 BK171.out
        go_upto_region 21 with (first | ((with_reducible refine gate_callee (f := 9) rfl ?_); refine goesL_ (some 75) rfl rfl Try.func9 (by kernel_rfl) rfl #[.agg #[.int .i64 x172000_26, .int .i64 x172001_26, .bool x172002_26, .int .i64 x172003_26, .int .i64 x172004_26, .int .i64 x172005_26, .bool x172006_26, .int .i64 x172007_26, .int .i64 x172008_26]] rfl Sq.m ?_; (with_reducible refine (drv_Next.calls x172000_26 x172001_26 x172002_26 x172003_26 x172004_26 x172005_26 x172006_26 x172007_26 x172008_26 t190 t191 t192 t195 t196 t197 _ A84.out).mono ?_); rintro e w89 ⟨v193, rfl, ho0, hb⟩; refine ⟨_, rfl, ?_⟩; have HO194 := Aside0.mk (Kd.R_lower ho0 (below_size (Sq.w HB.out))); replace BK160 := Sq.sb BK160 hb; replace BK171 := Sq.sb BK171 hb; replace BK175 := Sq.sb BK175 hb; replace HB := Sq.sw HB hb; ) | ((with_reducible refine gate_dst (N := 12) rfl ?_); (try (refine gate_guard (by rfl) ?_; dsimp only)); refine box_event ?hg (N := 12) ?hd (cs := #[.int .i64 0, .int .i64 0, .slice none 0 0, .int .i64 0]) (t := 31) ?hr ?_; (case hd => rfl); (case hg => rfl); (case hr => first | (go_simp; done) | (go_simp; rfl)); intro gb198 hg w90 hbox hb; have BK198 := Aside0.mk hbox; have GW198 := Sq.ge hg HB; have GE198 := Sq.ge hg HB; obtain ⟨NB160_198, NB198_160⟩ := Sq.np hg BK160; obtain ⟨NB171_198, NB198_171⟩ := Sq.np hg BK171; obtain ⟨NB175_198, NB198_175⟩ := Sq.np hg BK175; replace HO194 := Sq.sR HO194 hb; replace BK160 := Sq.sb BK160 hb; replace BK171 := Sq.sb BK171 hb; replace BK175 := Sq.sb BK175 hb; replace HB := Sq.sw HB hb; clear hb hbox hg; have b91 := NB198_160.out; have d91 := NB160_198.out; have b92 := NB198_171.out; have d92 := NB171_198.out; have b93 := NB198_175.out; have d93 := NB175_198.out; obtain ⟨z94_0, z94_1, z94_2, z94_3⟩ := Sq.c4 BK198.out; obtain ⟨y94_0, y94_1, y94_2, y94_3⟩ := Sq.f4 BK198.out; obtain ⟨Ao95, co95, eo95⟩ := Kd.R_slice HO194.out; subst eo95))
        (try simp only [Act.put, List.setIfInBounds_toArray, List.set_cons_zero, List.set_cons_succ])
        refine Cu.wp_cut (Cu.f :: Cu.f :: Cu.f :: Cu.f :: Cu.f :: Cu.f :: Cu.f :: Cu.f :: Cu.f :: Cu.f :: Cu.f :: Cu.f :: Cu.f :: Cu.f :: Cu.f :: Cu.f :: Cu.f :: Cu.f :: Cu.f :: Cu.f :: Cu.f :: Cu.f :: Cu.f :: Cu.f :: Cu.f :: Cu.f :: Cu.f :: Cu.t :: Cu.t :: Cu.t :: Cu.t :: Cu.t :: Cu.t :: Cu.t :: Cu.t :: Cu.t :: Cu.t :: Cu.t :: Cu.t :: Cu.t :: Cu.t :: Cu.t :: Cu.t :: Cu.t :: Cu.t :: Cu.t :: Cu.t :: Cu.t :: Cu.t :: Cu.t :: Cu.t :: Cu.t :: Cu.t :: Cu.t :: Cu.t :: Cu.t :: Cu.t :: Cu.t :: Cu.t :: Cu.t :: Cu.t :: Cu.t :: Cu.t :: Cu.t :: Cu.t :: Cu.t :: Cu.t :: Cu.t :: Cu.t :: Cu.t :: Cu.t :: Cu.t :: Cu.t :: Cu.t :: Cu.t :: Cu.t :: Cu.t :: Cu.t :: Cu.t :: Cu.t :: Cu.t :: Cu.t :: Cu.t :: Cu.t :: Cu.t :: Cu.t :: Cu.t :: Cu.t :: Cu.t :: Cu.t :: Cu.t :: Cu.t :: Cu.t :: Cu.t :: Cu.t :: Cu.t :: Cu.t :: Cu.t :: Cu.t :: Cu.t :: Cu.t :: Cu.t :: Cu.t :: Cu.t :: Cu.t :: Cu.t :: Cu.t :: Cu.t :: Cu.t :: Cu.t :: Cu.t :: Cu.t :: Cu.t :: Cu.t :: Cu.t :: Cu.t :: Cu.t :: Cu.t :: Cu.t :: Cu.t :: Cu.t :: Cu.t :: Cu.t :: Cu.t :: Cu.t :: Cu.t :: Cu.t :: Cu.t :: Cu.t :: Cu.t :: Cu.t :: Cu.t :: Cu.t :: Cu.t :: Cu.t :: Cu.t :: Cu.t :: Cu.t :: Cu.t :: Cu.t :: Cu.t :: Cu.t :: Cu.t :: Cu.t :: Cu.t :: Cu.t :: Cu.t :: Cu.t :: Cu.t :: Cu.f :: Cu.t :: Cu.t :: Cu.t :: Cu.t :: Cu.t :: Cu.t :: Cu.t :: Cu.t :: Cu.t :: Cu.t :: Cu.t :: Cu.t :: Cu.t :: Cu.t :: Cu.t :: Cu.t :: Cu.t :: Cu.t :: Cu.t :: Cu.t :: Cu.t :: Cu.t :: Cu.t :: Cu.t :: Cu.t :: Cu.t :: Cu.t :: Cu.t :: Cu.t :: Cu.t :: Cu.t :: Cu.t :: Cu.t :: Cu.t :: Cu.t :: Cu.t :: Cu.t :: Cu.t :: Cu.t :: Cu.t :: Cu.t :: Cu.t :: Cu.t :: Cu.t :: Cu.t :: Cu.t :: Cu.t :: Cu.t :: Cu.t :: Cu.t :: Cu.t :: Cu.t :: Cu.t :: Cu.f :: []) 175 (fun us_ wc => ∃ (kq : Nat) (x93_84 : Bool), (Cu.nth us_ 66) = .bool x93_84 ∧ Aside0 (gimballaw9_DrvFails.j3 kq x5_26 x6_1 x7_1 t196 x93_84 l0_0 x172000_26 x172001_26 x172002_26 x172003_26 x172004_26 x172005_26 x172006_26 x172007_26 x172008_26 ((rd_T29 l0_0 x7_1).f0.f0) ((rd_T29 l0_0 x7_1).f0.f1) ((rd_T29 l0_0 x7_1).f0.f2) ((rd_T29 l0_0 x7_1).f0.f3) ((rd_T29 l0_0 x7_1).f0.f4) ((rd_T29 l0_0 x7_1).f0.f5) ((rd_T29 l0_0 x7_1).f0.f6) ((rd_T29 l0_0 x7_1).f0.f7) ((rd_T29 l0_0 x7_1).f0.f8) ((rd_T29 l0_0 x7_1).f1) ((rd_T29 l0_0 x7_1).f2) ((rd_T29 l0_0 x7_1).f3.f0) ((rd_T29 l0_0 x7_1).f3.f1) t190 t191 t192 t195 = some r) ∧ Aside0 (kq ≤ kj26) ∧ Aside0 (Kd.R (Kd.int .u8) 5 wc w.heap.size (fun _ => True) (.slice Ao95 t192.length co95) t192) ∧ Aside0 (wc.heap[gb160]? = some (.cells #[(.slice (some ad174) l0_0.length c0_0)] 44 (0, 0))) ∧ Aside0 (wc.heap[gb171]? = some (.cells #[.int .i64 x172000_26, .int .i64 x172001_26, .bool x172002_26, .int .i64 x172003_26, .int .i64 x172004_26, .int .i64 x172005_26, .bool x172006_26, .int .i64 x172007_26, .int .i64 x172008_26] 24 (0, 0))) ∧ Aside0 (wc.heap[gb175]? = some (.cells #[.int .i64 ((rd_T29 l0_0 x7_1).f0.f0), .int .i64 ((rd_T29 l0_0 x7_1).f0.f1), .bool ((rd_T29 l0_0 x7_1).f0.f2), .int .i64 ((rd_T29 l0_0 x7_1).f0.f3), .int .i64 ((rd_T29 l0_0 x7_1).f0.f4), .int .i64 ((rd_T29 l0_0 x7_1).f0.f5), .bool ((rd_T29 l0_0 x7_1).f0.f6), .int .i64 ((rd_T29 l0_0 x7_1).f0.f7), .int .i64 ((rd_T29 l0_0 x7_1).f0.f8), .bool ((rd_T29 l0_0 x7_1).f1), .int .i64 ((rd_T29 l0_0 x7_1).f2), .int .i64 ((rd_T29 l0_0 x7_1).f3.f0), (.slice A174_12 ((rd_T29 l0_0 x7_1).f3.f1).length c174_12)] 29 (0, 0))) ∧ Aside0 (wc.heap[gb198]? = some (.cells #[.int .i64 t190, .int .i64 t191, (.slice Ao95 t192.length co95), .int .i64 t195] 31 (0, 0))) ∧ Aside0 (Below w.heap.size w wc)) ?_ ?_
        ·
         intro _ _ _ _
         have H := HC85.out
         clear HC85
         replace H := Option.bind_eq_some_iff.mp H
         obtain ⟨t199, A960, H⟩ := H
         replace H : (if t199 = 0 then (if x172004_26 = 0 then (gimballaw9_DrvFails.j3 kj26 x5_26 x6_1 x7_1 t196 (t196 == true) l0_0 x172000_26 x172001_26 x172002_26 x172003_26 x172004_26 x172005_26 x172006_26 x172007_26 x172008_26 ((rd_T29 l0_0 x7_1).f0.f0) ((rd_T29 l0_0 x7_1).f0.f1) ((rd_T29 l0_0 x7_1).f0.f2) ((rd_T29 l0_0 x7_1).f0.f3) ((rd_T29 l0_0 x7_1).f0.f4) ((rd_T29 l0_0 x7_1).f0.f5) ((rd_T29 l0_0 x7_1).f0.f6) ((rd_T29 l0_0 x7_1).f0.f7) ((rd_T29 l0_0 x7_1).f0.f8) ((rd_T29 l0_0 x7_1).f1) ((rd_T29 l0_0 x7_1).f2) ((rd_T29 l0_0 x7_1).f3.f0) ((rd_T29 l0_0 x7_1).f3.f1) t190 t191 t192 t195) else (gimballaw9_DrvFails.j3 kj26 x5_26 x6_1 x7_1 t196 (t196 == (x172004_26 == 8)) l0_0 x172000_26 x172001_26 x172002_26 x172003_26 x172004_26 x172005_26 x172006_26 x172007_26 x172008_26 ((rd_T29 l0_0 x7_1).f0.f0) ((rd_T29 l0_0 x7_1).f0.f1) ((rd_T29 l0_0 x7_1).f0.f2) ((rd_T29 l0_0 x7_1).f0.f3) ((rd_T29 l0_0 x7_1).f0.f4) ((rd_T29 l0_0 x7_1).f0.f5) ((rd_T29 l0_0 x7_1).f0.f6) ((rd_T29 l0_0 x7_1).f0.f7) ((rd_T29 l0_0 x7_1).f0.f8) ((rd_T29 l0_0 x7_1).f1) ((rd_T29 l0_0 x7_1).f2) ((rd_T29 l0_0 x7_1).f3.f0) ((rd_T29 l0_0 x7_1).f3.f1) t190 t191 t192 t195)) else (gimballaw9_DrvFails.j3 kj26 x5_26 x6_1 x7_1 t196 true l0_0 x172000_26 x172001_26 x172002_26 x172003_26 x172004_26 x172005_26 x172006_26 x172007_26 x172008_26 ((rd_T29 l0_0 x7_1).f0.f0) ((rd_T29 l0_0 x7_1).f0.f1) ((rd_T29 l0_0 x7_1).f0.f2) ((rd_T29 l0_0 x7_1).f0.f3) ((rd_T29 l0_0 x7_1).f0.f4) ((rd_T29 l0_0 x7_1).f0.f5) ((rd_T29 l0_0 x7_1).f0.f6) ((rd_T29 l0_0 x7_1).f0.f7) ((rd_T29 l0_0 x7_1).f0.f8) ((rd_T29 l0_0 x7_1).f1) ((rd_T29 l0_0 x7_1).f2) ((rd_T29 l0_0 x7_1).f3.f0) ((rd_T29 l0_0 x7_1).f3.f1) t190 t191 t192 t195)) = some r := H
         have A96 := Aside0.mk A960
         clear A960
         by_cases c97 : t199 = 0
         ·rw [if_pos c97] at H
          have c97b0 : (t199 == 0) = true := beq_iff_eq.mpr c97
          have c97b1 : (t199 != 0) = false := bne_eq_false_iff_eq.mpr c97
          clear c97
          (first | rw [c97b0] | (simp only [i64_w, i32_w]; rw [c97b0]) | skip)
          by_cases c98 : x172004_26 = 0
          ·rw [if_pos c98] at H
           have c98b0 : (x172004_26 == 0) = true := beq_iff_eq.mpr c98
           have c98b1 : (x172004_26 != 0) = false := bne_eq_false_iff_eq.mpr c98
           clear c98
           have H' := Aside0.mk H
           clear H
           go_wp2_with (first | ((with_reducible refine gate_callee (f := 11) rfl ?_); refine goesL_ (some 80) rfl rfl Try.func11 (by kernel_rfl) rfl #[.int .i64 t197] rfl Sq.m ?_; (with_reducible refine (gimballaw9_num.calls t197 t199 _ A96.out).mono ?_); rintro e w' ⟨rfl, ⟨nd, rfl⟩⟩; refine ⟨_, rfl, ?_⟩; have b99 := NB171_160.out; have d99 := NB160_171.out; have b100 := NB171_175.out; have d100 := NB175_171.out; have b101 := NB171_198.out; have d101 := NB198_171.out; obtain ⟨z102_0, z102_1, z102_2, z102_3, z102_4, z102_5, z102_6, z102_7, z102_8⟩ := Sq.c9 BK171.out; obtain ⟨y102_0, y102_1, y102_2, y102_3, y102_4, y102_5, y102_6, y102_7, y102_8⟩ := Sq.f9 BK171.out))
           refine Cu.meet (by assumption) ?_ (by kernel_rfl) (by kernel_rfl)
           try dsimp only [Cu.pick, Cu.nth]
           exact ⟨_, ((t196 == true)), Sq.e, H', ⟨by have := HK1.out; have := HJ9.out; have := HJ26.out; first | omega | exact Nat.le_refl _⟩, ⟨Sq.rR (Kd.R_mono (Kd.R_far (p := ⟨gb198, 3, none⟩) (Kd.R_far (p := ⟨gb198, 2, none⟩) (Kd.R_far (p := ⟨gb198, 1, none⟩) (Kd.R_far (p := ⟨gb198, 0, none⟩) (Kd.R_types HO194.out BK198.out (by decide)) (fun _ hk => hk.2) (.int .i64 t190)) (fun _ hk => hk.2) (.int .i64 t191)) (fun _ hk => hk.2) (.slice Ao95 t192.length co95)) (fun _ hk => hk.2) (.int .i64 t195)) (fun _ hk => trivial))⟩, ⟨Sq.F BK160.out⟩, ⟨Sq.F BK171.out⟩, ⟨Sq.F BK175.out⟩, ⟨Sq.B BK198.out⟩, ⟨Sq.w HB.out⟩⟩
          rw [if_neg c98] at H
          have c98b0 : (x172004_26 == 0) = false := beq_eq_false_iff_ne.mpr c98
          have c98b1 : (x172004_26 != 0) = true := bne_iff_ne.mpr c98
          have H' := Aside0.mk H
          clear H
          go_wp2_with (first | ((with_reducible refine gate_callee (f := 11) rfl ?_); refine goesL_ (some 80) rfl rfl Try.func11 (by kernel_rfl) rfl #[.int .i64 t197] rfl Sq.m ?_; (with_reducible refine (gimballaw9_num.calls t197 t199 _ A96.out).mono ?_); rintro e w' ⟨rfl, ⟨nd, rfl⟩⟩; refine ⟨_, rfl, ?_⟩; have b103 := NB171_160.out; have d103 := NB160_171.out; have b104 := NB171_175.out; have d104 := NB175_171.out; have b105 := NB171_198.out; have d105 := NB198_171.out; obtain ⟨z106_0, z106_1, z106_2, z106_3, z106_4, z106_5, z106_6, z106_7, z106_8⟩ := Sq.c9 BK171.out; obtain ⟨y106_0, y106_1, y106_2, y106_3, y106_4, y106_5, y106_6, y106_7, y106_8⟩ := Sq.f9 BK171.out))
          refine Cu.meet (by assumption) ?_ (by kernel_rfl) (by kernel_rfl)
          try dsimp only [Cu.pick, Cu.nth]
          exact ⟨_, ((t196 == (x172004_26 == 8))), Sq.e, H', ⟨by have := HK1.out; have := HJ9.out; have := HJ26.out; first | omega | exact Nat.le_refl _⟩, ⟨Sq.rR (Kd.R_mono (Kd.R_far (p := ⟨gb198, 3, none⟩) (Kd.R_far (p := ⟨gb198, 2, none⟩) (Kd.R_far (p := ⟨gb198, 1, none⟩) (Kd.R_far (p := ⟨gb198, 0, none⟩) (Kd.R_types HO194.out BK198.out (by decide)) (fun _ hk => hk.2) (.int .i64 t190)) (fun _ hk => hk.2) (.int .i64 t191)) (fun _ hk => hk.2) (.slice Ao95 t192.length co95)) (fun _ hk => hk.2) (.int .i64 t195)) (fun _ hk => trivial))⟩, ⟨Sq.F BK160.out⟩, ⟨Sq.F BK171.out⟩, ⟨Sq.F BK175.out⟩, ⟨Sq.B BK198.out⟩, ⟨Sq.w HB.out⟩⟩
         rw [if_neg c97] at H
         have c97b0 : (t199 == 0) = false := beq_eq_false_iff_ne.mpr c97
         have c97b1 : (t199 != 0) = true := bne_iff_ne.mpr c97
         (first | rw [c97b0] | (simp only [i64_w, i32_w]; rw [c97b0]) | skip)
         have H' := Aside0.mk H
         clear H
         go_wp2_with (first | ((with_reducible refine gate_callee (f := 11) rfl ?_); refine goesL_ (some 80) rfl rfl Try.func11 (by kernel_rfl) rfl #[.int .i64 t197] rfl Sq.m ?_; (with_reducible refine (gimballaw9_num.calls t197 t199 _ A96.out).mono ?_); rintro e w' ⟨rfl, ⟨nd, rfl⟩⟩; refine ⟨_, rfl, ?_⟩))
         refine Cu.meet (by assumption) ?_ (by kernel_rfl) (by kernel_rfl)
         try dsimp only [Cu.pick, Cu.nth]
         exact ⟨_, (true), Sq.e, H', ⟨by have := HK1.out; have := HJ9.out; have := HJ26.out; first | omega | exact Nat.le_refl _⟩, ⟨Sq.rR (Kd.R_mono (Kd.R_far (p := ⟨gb198, 3, none⟩) (Kd.R_far (p := ⟨gb198, 2, none⟩) (Kd.R_far (p := ⟨gb198, 1, none⟩) (Kd.R_far (p := ⟨gb198, 0, none⟩) (Kd.R_types HO194.out BK198.out (by decide)) (fun _ hk => hk.2) (.int .i64 t190)) (fun _ hk => hk.2) (.int .i64 t191)) (fun _ hk => hk.2) (.slice Ao95 t192.length co95)) (fun _ hk => hk.2) (.int .i64 t195)) (fun _ hk => trivial))⟩, ⟨Sq.F BK160.out⟩, ⟨Sq.F BK171.out⟩, ⟨Sq.F BK175.out⟩, ⟨Sq.B BK198.out⟩, ⟨Sq.w HB.out⟩⟩
        ·
         intro wc u27 u28 u29 u30 u31 u32 u33 u34 u35 u36 u37 u38 u39 u40 u41 u42 u43 u44 u45 u46 u47 u48 u49 u50 u51 u52 u53 u54 u55 u56 u57 u58 u59 u60 u61 u62 u63 u64 u65 u66 u67 u68 u69 u70 u71 u72 u73 u74 u75 u76 u77 u78 u79 u80 u81 u82 u83 u84 u85 u86 u87 u88 u89 u90 u91 u92 u93 u94 u95 u96 u97 u98 u99 u100 u101 u102 u103 u104 u105 u106 u107 u108 u109 u110 u111 u112 u113 u114 u115 u116 u117 u118 u119 u120 u121 u122 u123 u124 u125 u126 u127 u128 u129 u130 u131 u132 u133 u134 u135 u136 u137 u138 u139 u140 u141 u142 u143 u144 u145 u146 u147 u148 u150 u151 u152 u153 u154 u155 u156 u157 u158 u159 u160 u161 u162 u163 u164 u165 u166 u167 u168 u169 u170 u171 u172 u173 u174 u175 u176 u177 u178 u179 u180 u181 u182 u183 u184 u185 u186 u187 u188 u189 u190 u191 u192 u193 u194 u195 u196 u197 u198 u199 u200 u201 u202
         try dsimp only [Cu.over, Cu.nth]
         intro hcut
         clear HC85; (try clear z88_0 z88_1 z88_2 z88_3 z88_4 z88_5 z88_6 z88_7 z88_8); (try clear z94_0 z94_1 z94_2 z94_3); (try clear y88_0 y88_1 y88_2 y88_3 y88_4 y88_5 y88_6 y88_7 y88_8); (try clear y94_0 y94_1 y94_2 y94_3)
         obtain ⟨kq, x93_84, rfl, HA, HJ84, HO_199002, BK160, BK171, BK175, BK198, HB⟩ := hcut
         cases kq with
         | zero => exact absurd HA.out (by simp [gimballaw9_DrvFails.j3])
         | succ kj84 =>
          have H := HA.out
          clear HA
          simp only [gimballaw9_DrvFails.j3] at H
          by_cases c107 : x93_84 = true
          ·subst c107
           have H1 : (some false) = some r := by rw [if_pos rfl] at H; exact H
           clear H
           have H := H1
           clear H1
           exact absurd ((Option.some.inj H).trans hrt_.out) (by simp)
          replace c107 := Bool.eq_false_iff.mpr c107
          subst c107
          have H1 : (if t196 = true then (if ((rd_T29 l0_0 x7_1).f3.f0) = 1 then (if (((rd_T29 l0_0 x7_1).f3.f1).length : Int) = t195 then (if x172004_26 = 1 then (if 0 < (((rd_T29 l0_0 x7_1).f3.f1).length : Int) then (if (rd ((rd_T29 l0_0 x7_1).f3.f1) 0) = 49 then (if x172004_26 = 4 then (gimballaw9_DrvFails.j4 kj84 x5_26 x6_1 x7_1 (decide ((rd ((rd_T29 l0_0 x7_1).f3.f1) 0) ≤ 16)) l0_0 x172000_26 x172001_26 x172002_26 x172003_26 x172004_26 x172005_26 x172006_26 x172007_26 x172008_26 ((rd_T29 l0_0 x7_1).f0.f0) ((rd_T29 l0_0 x7_1).f0.f1) ((rd_T29 l0_0 x7_1).f0.f2) ((rd_T29 l0_0 x7_1).f0.f3) ((rd_T29 l0_0 x7_1).f0.f4) ((rd_T29 l0_0 x7_1).f0.f5) ((rd_T29 l0_0 x7_1).f0.f6) ((rd_T29 l0_0 x7_1).f0.f7) ((rd_T29 l0_0 x7_1).f0.f8) ((rd_T29 l0_0 x7_1).f1) ((rd_T29 l0_0 x7_1).f2) ((rd_T29 l0_0 x7_1).f3.f0) ((rd_T29 l0_0 x7_1).f3.f1)) else (gimballaw9_DrvFails.j4 kj84 x5_26 x6_1 x7_1 true l0_0 x172000_26 x172001_26 x172002_26 x172003_26 x172004_26 x172005_26 x172006_26 x172007_26 x172008_26 ((rd_T29 l0_0 x7_1).f0.f0) ((rd_T29 l0_0 x7_1).f0.f1) ((rd_T29 l0_0 x7_1).f0.f2) ((rd_T29 l0_0 x7_1).f0.f3) ((rd_T29 l0_0 x7_1).f0.f4) ((rd_T29 l0_0 x7_1).f0.f5) ((rd_T29 l0_0 x7_1).f0.f6) ((rd_T29 l0_0 x7_1).f0.f7) ((rd_T29 l0_0 x7_1).f0.f8) ((rd_T29 l0_0 x7_1).f1) ((rd_T29 l0_0 x7_1).f2) ((rd_T29 l0_0 x7_1).f3.f0) ((rd_T29 l0_0 x7_1).f3.f1))) else (gimballaw9_DrvFails.j4 kj84 x5_26 x6_1 x7_1 false l0_0 x172000_26 x172001_26 x172002_26 x172003_26 x172004_26 x172005_26 x172006_26 x172007_26 x172008_26 ((rd_T29 l0_0 x7_1).f0.f0) ((rd_T29 l0_0 x7_1).f0.f1) ((rd_T29 l0_0 x7_1).f0.f2) ((rd_T29 l0_0 x7_1).f0.f3) ((rd_T29 l0_0 x7_1).f0.f4) ((rd_T29 l0_0 x7_1).f0.f5) ((rd_T29 l0_0 x7_1).f0.f6) ((rd_T29 l0_0 x7_1).f0.f7) ((rd_T29 l0_0 x7_1).f0.f8) ((rd_T29 l0_0 x7_1).f1) ((rd_T29 l0_0 x7_1).f2) ((rd_T29 l0_0 x7_1).f3.f0) ((rd_T29 l0_0 x7_1).f3.f1))) else (none)) else (if x172004_26 = 4 then (if 0 < (((rd_T29 l0_0 x7_1).f3.f1).length : Int) then (gimballaw9_DrvFails.j4 kj84 x5_26 x6_1 x7_1 (decide ((rd ((rd_T29 l0_0 x7_1).f3.f1) 0) ≤ 16)) l0_0 x172000_26 x172001_26 x172002_26 x172003_26 x172004_26 x172005_26 x172006_26 x172007_26 x172008_26 ((rd_T29 l0_0 x7_1).f0.f0) ((rd_T29 l0_0 x7_1).f0.f1) ((rd_T29 l0_0 x7_1).f0.f2) ((rd_T29 l0_0 x7_1).f0.f3) ((rd_T29 l0_0 x7_1).f0.f4) ((rd_T29 l0_0 x7_1).f0.f5) ((rd_T29 l0_0 x7_1).f0.f6) ((rd_T29 l0_0 x7_1).f0.f7) ((rd_T29 l0_0 x7_1).f0.f8) ((rd_T29 l0_0 x7_1).f1) ((rd_T29 l0_0 x7_1).f2) ((rd_T29 l0_0 x7_1).f3.f0) ((rd_T29 l0_0 x7_1).f3.f1)) else (none)) else (gimballaw9_DrvFails.j4 kj84 x5_26 x6_1 x7_1 true l0_0 x172000_26 x172001_26 x172002_26 x172003_26 x172004_26 x172005_26 x172006_26 x172007_26 x172008_26 ((rd_T29 l0_0 x7_1).f0.f0) ((rd_T29 l0_0 x7_1).f0.f1) ((rd_T29 l0_0 x7_1).f0.f2) ((rd_T29 l0_0 x7_1).f0.f3) ((rd_T29 l0_0 x7_1).f0.f4) ((rd_T29 l0_0 x7_1).f0.f5) ((rd_T29 l0_0 x7_1).f0.f6) ((rd_T29 l0_0 x7_1).f0.f7) ((rd_T29 l0_0 x7_1).f0.f8) ((rd_T29 l0_0 x7_1).f1) ((rd_T29 l0_0 x7_1).f2) ((rd_T29 l0_0 x7_1).f3.f0) ((rd_T29 l0_0 x7_1).f3.f1)))) else (gimballaw9_DrvFails.j4 kj84 x5_26 x6_1 x7_1 false l0_0 x172000_26 x172001_26 x172002_26 x172003_26 x172004_26 x172005_26 x172006_26 x172007_26 x172008_26 ((rd_T29 l0_0 x7_1).f0.f0) ((rd_T29 l0_0 x7_1).f0.f1) ((rd_T29 l0_0 x7_1).f0.f2) ((rd_T29 l0_0 x7_1).f0.f3) ((rd_T29 l0_0 x7_1).f0.f4) ((rd_T29 l0_0 x7_1).f0.f5) ((rd_T29 l0_0 x7_1).f0.f6) ((rd_T29 l0_0 x7_1).f0.f7) ((rd_T29 l0_0 x7_1).f0.f8) ((rd_T29 l0_0 x7_1).f1) ((rd_T29 l0_0 x7_1).f2) ((rd_T29 l0_0 x7_1).f3.f0) ((rd_T29 l0_0 x7_1).f3.f1))) else (gimballaw9_DrvFails.j4 kj84 x5_26 x6_1 x7_1 false l0_0 x172000_26 x172001_26 x172002_26 x172003_26 x172004_26 x172005_26 x172006_26 x172007_26 x172008_26 ((rd_T29 l0_0 x7_1).f0.f0) ((rd_T29 l0_0 x7_1).f0.f1) ((rd_T29 l0_0 x7_1).f0.f2) ((rd_T29 l0_0 x7_1).f0.f3) ((rd_T29 l0_0 x7_1).f0.f4) ((rd_T29 l0_0 x7_1).f0.f5) ((rd_T29 l0_0 x7_1).f0.f6) ((rd_T29 l0_0 x7_1).f0.f7) ((rd_T29 l0_0 x7_1).f0.f8) ((rd_T29 l0_0 x7_1).f1) ((rd_T29 l0_0 x7_1).f2) ((rd_T29 l0_0 x7_1).f3.f0) ((rd_T29 l0_0 x7_1).f3.f1))) else (gimballaw9_DrvFails.l0 kj84 x5_26 x6_1 (wrap64 (x7_1 + 1)) l0_0 x172000_26 x172001_26 x172002_26 x172003_26 x172004_26 x172005_26 x172006_26 x172007_26 x172008_26)) = some r := by rw [if_neg (show ¬ (false = true) by decide)] at H; exact H
          clear H
          have H := H1
          clear H1
          by_cases c108 : t196 = true
          ·subst c108
           have H1 : (if ((rd_T29 l0_0 x7_1).f3.f0) = 1 then (if (((rd_T29 l0_0 x7_1).f3.f1).length : Int) = t195 then (if x172004_26 = 1 then (if 0 < (((rd_T29 l0_0 x7_1).f3.f1).length : Int) then (if (rd ((rd_T29 l0_0 x7_1).f3.f1) 0) = 49 then (if x172004_26 = 4 then (gimballaw9_DrvFails.j4 kj84 x5_26 x6_1 x7_1 (decide ((rd ((rd_T29 l0_0 x7_1).f3.f1) 0) ≤ 16)) l0_0 x172000_26 x172001_26 x172002_26 x172003_26 x172004_26 x172005_26 x172006_26 x172007_26 x172008_26 ((rd_T29 l0_0 x7_1).f0.f0) ((rd_T29 l0_0 x7_1).f0.f1) ((rd_T29 l0_0 x7_1).f0.f2) ((rd_T29 l0_0 x7_1).f0.f3) ((rd_T29 l0_0 x7_1).f0.f4) ((rd_T29 l0_0 x7_1).f0.f5) ((rd_T29 l0_0 x7_1).f0.f6) ((rd_T29 l0_0 x7_1).f0.f7) ((rd_T29 l0_0 x7_1).f0.f8) ((rd_T29 l0_0 x7_1).f1) ((rd_T29 l0_0 x7_1).f2) ((rd_T29 l0_0 x7_1).f3.f0) ((rd_T29 l0_0 x7_1).f3.f1)) else (gimballaw9_DrvFails.j4 kj84 x5_26 x6_1 x7_1 true l0_0 x172000_26 x172001_26 x172002_26 x172003_26 x172004_26 x172005_26 x172006_26 x172007_26 x172008_26 ((rd_T29 l0_0 x7_1).f0.f0) ((rd_T29 l0_0 x7_1).f0.f1) ((rd_T29 l0_0 x7_1).f0.f2) ((rd_T29 l0_0 x7_1).f0.f3) ((rd_T29 l0_0 x7_1).f0.f4) ((rd_T29 l0_0 x7_1).f0.f5) ((rd_T29 l0_0 x7_1).f0.f6) ((rd_T29 l0_0 x7_1).f0.f7) ((rd_T29 l0_0 x7_1).f0.f8) ((rd_T29 l0_0 x7_1).f1) ((rd_T29 l0_0 x7_1).f2) ((rd_T29 l0_0 x7_1).f3.f0) ((rd_T29 l0_0 x7_1).f3.f1))) else (gimballaw9_DrvFails.j4 kj84 x5_26 x6_1 x7_1 false l0_0 x172000_26 x172001_26 x172002_26 x172003_26 x172004_26 x172005_26 x172006_26 x172007_26 x172008_26 ((rd_T29 l0_0 x7_1).f0.f0) ((rd_T29 l0_0 x7_1).f0.f1) ((rd_T29 l0_0 x7_1).f0.f2) ((rd_T29 l0_0 x7_1).f0.f3) ((rd_T29 l0_0 x7_1).f0.f4) ((rd_T29 l0_0 x7_1).f0.f5) ((rd_T29 l0_0 x7_1).f0.f6) ((rd_T29 l0_0 x7_1).f0.f7) ((rd_T29 l0_0 x7_1).f0.f8) ((rd_T29 l0_0 x7_1).f1) ((rd_T29 l0_0 x7_1).f2) ((rd_T29 l0_0 x7_1).f3.f0) ((rd_T29 l0_0 x7_1).f3.f1))) else (none)) else (if x172004_26 = 4 then (if 0 < (((rd_T29 l0_0 x7_1).f3.f1).length : Int) then (gimballaw9_DrvFails.j4 kj84 x5_26 x6_1 x7_1 (decide ((rd ((rd_T29 l0_0 x7_1).f3.f1) 0) ≤ 16)) l0_0 x172000_26 x172001_26 x172002_26 x172003_26 x172004_26 x172005_26 x172006_26 x172007_26 x172008_26 ((rd_T29 l0_0 x7_1).f0.f0) ((rd_T29 l0_0 x7_1).f0.f1) ((rd_T29 l0_0 x7_1).f0.f2) ((rd_T29 l0_0 x7_1).f0.f3) ((rd_T29 l0_0 x7_1).f0.f4) ((rd_T29 l0_0 x7_1).f0.f5) ((rd_T29 l0_0 x7_1).f0.f6) ((rd_T29 l0_0 x7_1).f0.f7) ((rd_T29 l0_0 x7_1).f0.f8) ((rd_T29 l0_0 x7_1).f1) ((rd_T29 l0_0 x7_1).f2) ((rd_T29 l0_0 x7_1).f3.f0) ((rd_T29 l0_0 x7_1).f3.f1)) else (none)) else (gimballaw9_DrvFails.j4 kj84 x5_26 x6_1 x7_1 true l0_0 x172000_26 x172001_26 x172002_26 x172003_26 x172004_26 x172005_26 x172006_26 x172007_26 x172008_26 ((rd_T29 l0_0 x7_1).f0.f0) ((rd_T29 l0_0 x7_1).f0.f1) ((rd_T29 l0_0 x7_1).f0.f2) ((rd_T29 l0_0 x7_1).f0.f3) ((rd_T29 l0_0 x7_1).f0.f4) ((rd_T29 l0_0 x7_1).f0.f5) ((rd_T29 l0_0 x7_1).f0.f6) ((rd_T29 l0_0 x7_1).f0.f7) ((rd_T29 l0_0 x7_1).f0.f8) ((rd_T29 l0_0 x7_1).f1) ((rd_T29 l0_0 x7_1).f2) ((rd_T29 l0_0 x7_1).f3.f0) ((rd_T29 l0_0 x7_1).f3.f1)))) else (gimballaw9_DrvFails.j4 kj84 x5_26 x6_1 x7_1 false l0_0 x172000_26 x172001_26 x172002_26 x172003_26 x172004_26 x172005_26 x172006_26 x172007_26 x172008_26 ((rd_T29 l0_0 x7_1).f0.f0) ((rd_T29 l0_0 x7_1).f0.f1) ((rd_T29 l0_0 x7_1).f0.f2) ((rd_T29 l0_0 x7_1).f0.f3) ((rd_T29 l0_0 x7_1).f0.f4) ((rd_T29 l0_0 x7_1).f0.f5) ((rd_T29 l0_0 x7_1).f0.f6) ((rd_T29 l0_0 x7_1).f0.f7) ((rd_T29 l0_0 x7_1).f0.f8) ((rd_T29 l0_0 x7_1).f1) ((rd_T29 l0_0 x7_1).f2) ((rd_T29 l0_0 x7_1).f3.f0) ((rd_T29 l0_0 x7_1).f3.f1))) else (gimballaw9_DrvFails.j4 kj84 x5_26 x6_1 x7_1 false l0_0 x172000_26 x172001_26 x172002_26 x172003_26 x172004_26 x172005_26 x172006_26 x172007_26 x172008_26 ((rd_T29 l0_0 x7_1).f0.f0) ((rd_T29 l0_0 x7_1).f0.f1) ((rd_T29 l0_0 x7_1).f0.f2) ((rd_T29 l0_0 x7_1).f0.f3) ((rd_T29 l0_0 x7_1).f0.f4) ((rd_T29 l0_0 x7_1).f0.f5) ((rd_T29 l0_0 x7_1).f0.f6) ((rd_T29 l0_0 x7_1).f0.f7) ((rd_T29 l0_0 x7_1).f0.f8) ((rd_T29 l0_0 x7_1).f1) ((rd_T29 l0_0 x7_1).f2) ((rd_T29 l0_0 x7_1).f3.f0) ((rd_T29 l0_0 x7_1).f3.f1))) = some r := by rw [if_pos rfl] at H; exact H
           clear H
           have H := H1
           clear H1
           have HC109 := Aside0.mk H
           clear H
           go_upto_region 24 with (fail)
           refine Cu.wp_cut (Cu.f :: Cu.f :: Cu.f :: Cu.f :: Cu.f :: Cu.f :: Cu.f :: Cu.f :: Cu.f :: Cu.f :: Cu.f :: Cu.f :: Cu.f :: Cu.f :: Cu.f :: Cu.t :: Cu.f :: Cu.f :: Cu.f :: Cu.f :: Cu.f :: Cu.f :: Cu.f :: Cu.f :: Cu.f :: Cu.f :: Cu.f :: Cu.t :: Cu.t :: Cu.t :: Cu.t :: Cu.t :: Cu.t :: Cu.t :: Cu.t :: Cu.t :: Cu.t :: Cu.t :: Cu.t :: Cu.t :: Cu.t :: Cu.t :: Cu.t :: Cu.t :: Cu.t :: Cu.t :: Cu.t :: Cu.t :: Cu.t :: Cu.t :: Cu.t :: Cu.t :: Cu.t :: Cu.t :: Cu.t :: Cu.t :: Cu.t :: Cu.t :: Cu.t :: Cu.t :: Cu.t :: Cu.t :: Cu.t :: Cu.t :: Cu.t :: Cu.t :: Cu.t :: Cu.t :: Cu.t :: Cu.t :: Cu.t :: Cu.t :: Cu.t :: Cu.t :: Cu.t :: Cu.t :: Cu.t :: Cu.t :: Cu.t :: Cu.t :: Cu.t :: Cu.t :: Cu.t :: Cu.t :: Cu.t :: Cu.t :: Cu.t :: Cu.t :: Cu.t :: Cu.t :: Cu.t :: Cu.t :: Cu.t :: Cu.t :: Cu.t :: Cu.t :: Cu.t :: Cu.t :: Cu.t :: Cu.t :: Cu.t :: Cu.t :: Cu.t :: Cu.t :: Cu.t :: Cu.t :: Cu.t :: Cu.t :: Cu.t :: Cu.t :: Cu.t :: Cu.t :: Cu.t :: Cu.t :: Cu.t :: Cu.t :: Cu.t :: Cu.t :: Cu.t :: Cu.t :: Cu.t :: Cu.t :: Cu.t :: Cu.t :: Cu.t :: Cu.t :: Cu.t :: Cu.t :: Cu.t :: Cu.t :: Cu.t :: Cu.t :: Cu.t :: Cu.t :: Cu.t :: Cu.t :: Cu.t :: Cu.t :: Cu.t :: Cu.t :: Cu.t :: Cu.t :: Cu.t :: Cu.t :: Cu.t :: Cu.t :: Cu.t :: Cu.t :: Cu.t :: Cu.f :: Cu.t :: Cu.t :: Cu.t :: Cu.t :: Cu.t :: Cu.t :: Cu.t :: Cu.t :: Cu.t :: Cu.t :: Cu.t :: Cu.t :: Cu.t :: Cu.t :: Cu.t :: Cu.t :: Cu.t :: Cu.t :: Cu.t :: Cu.t :: Cu.t :: Cu.t :: Cu.t :: Cu.t :: Cu.t :: Cu.t :: Cu.t :: Cu.t :: Cu.t :: Cu.t :: Cu.t :: Cu.t :: Cu.t :: Cu.t :: Cu.t :: Cu.t :: Cu.t :: Cu.t :: Cu.t :: Cu.t :: Cu.t :: Cu.t :: Cu.t :: Cu.t :: Cu.t :: Cu.t :: Cu.t :: Cu.t :: Cu.t :: Cu.t :: Cu.t :: Cu.t :: Cu.t :: Cu.f :: []) 176 (fun us_ wc => ∃ (kq : Nat) (x15_108 : Bool), (Cu.nth us_ 0) = .bool x15_108 ∧ Aside0 (gimballaw9_DrvFails.j4 kq x5_26 x6_1 x7_1 x15_108 l0_0 x172000_26 x172001_26 x172002_26 x172003_26 x172004_26 x172005_26 x172006_26 x172007_26 x172008_26 ((rd_T29 l0_0 x7_1).f0.f0) ((rd_T29 l0_0 x7_1).f0.f1) ((rd_T29 l0_0 x7_1).f0.f2) ((rd_T29 l0_0 x7_1).f0.f3) ((rd_T29 l0_0 x7_1).f0.f4) ((rd_T29 l0_0 x7_1).f0.f5) ((rd_T29 l0_0 x7_1).f0.f6) ((rd_T29 l0_0 x7_1).f0.f7) ((rd_T29 l0_0 x7_1).f0.f8) ((rd_T29 l0_0 x7_1).f1) ((rd_T29 l0_0 x7_1).f2) ((rd_T29 l0_0 x7_1).f3.f0) ((rd_T29 l0_0 x7_1).f3.f1) = some r) ∧ Aside0 (kq ≤ kj84) ∧ Aside0 (Kd.R (Kd.int .u8) 5 wc w.heap.size (fun _ => True) (.slice Ao95 t192.length co95) t192) ∧ Aside0 (wc.heap[gb160]? = some (.cells #[(.slice (some ad174) l0_0.length c0_0)] 44 (0, 0))) ∧ Aside0 (wc.heap[gb171]? = some (.cells #[.int .i64 x172000_26, .int .i64 x172001_26, .bool x172002_26, .int .i64 x172003_26, .int .i64 x172004_26, .int .i64 x172005_26, .bool x172006_26, .int .i64 x172007_26, .int .i64 x172008_26] 24 (0, 0))) ∧ Aside0 (wc.heap[gb175]? = some (.cells #[.int .i64 ((rd_T29 l0_0 x7_1).f0.f0), .int .i64 ((rd_T29 l0_0 x7_1).f0.f1), .bool ((rd_T29 l0_0 x7_1).f0.f2), .int .i64 ((rd_T29 l0_0 x7_1).f0.f3), .int .i64 ((rd_T29 l0_0 x7_1).f0.f4), .int .i64 ((rd_T29 l0_0 x7_1).f0.f5), .bool ((rd_T29 l0_0 x7_1).f0.f6), .int .i64 ((rd_T29 l0_0 x7_1).f0.f7), .int .i64 ((rd_T29 l0_0 x7_1).f0.f8), .bool ((rd_T29 l0_0 x7_1).f1), .int .i64 ((rd_T29 l0_0 x7_1).f2), .int .i64 ((rd_T29 l0_0 x7_1).f3.f0), (.slice A174_12 ((rd_T29 l0_0 x7_1).f3.f1).length c174_12)] 29 (0, 0))) ∧ Aside0 (wc.heap[gb198]? = some (.cells #[.int .i64 t190, .int .i64 t191, (.slice Ao95 t192.length co95), .int .i64 t195] 31 (0, 0))) ∧ Aside0 (Below w.heap.size w wc)) ?_ ?_
           ·
            intro _ _ _ _
            have H := HC109.out
            clear HC109
            by_cases c110 : ((rd_T29 l0_0 x7_1).f3.f0) = 1
            ·rw [if_pos c110] at H
             have c110b0 : (((rd_T29 l0_0 x7_1).f3.f0) == 1) = true := beq_iff_eq.mpr c110
             have c110b1 : (((rd_T29 l0_0 x7_1).f3.f0) != 1) = false := bne_eq_false_iff_eq.mpr c110
             clear c110
             (first | rw [c110b0] | (simp only [i64_w, i32_w]; rw [c110b0]) | skip)
             by_cases c111 : (((rd_T29 l0_0 x7_1).f3.f1).length : Int) = t195
             ·rw [if_pos c111] at H
              have c111b0 : ((((rd_T29 l0_0 x7_1).f3.f1).length : Int) == t195) = true := beq_iff_eq.mpr c111
              have c111b1 : ((((rd_T29 l0_0 x7_1).f3.f1).length : Int) != t195) = false := bne_eq_false_iff_eq.mpr c111
              clear c111
              by_cases c112 : x172004_26 = 1
              ·rw [if_pos c112] at H
               have c112b0 : (x172004_26 == 1) = true := beq_iff_eq.mpr c112
               have c112b1 : (x172004_26 != 1) = false := bne_eq_false_iff_eq.mpr c112
               clear c112
               by_cases c113 : 0 < (((rd_T29 l0_0 x7_1).f3.f1).length : Int)
               rotate_left
               ·rw [if_neg c113] at H
                exact absurd H (by simp)
               rw [if_pos c113] at H
               have c113b0 : decide (0 < (((rd_T29 l0_0 x7_1).f3.f1).length : Int)) = true := decide_eq_true c113
               have c113b1 : decide (0 < ((rd_T29 l0_0 x7_1).f3.f1).length) = true := decide_eq_true (by omega)
               clear c113
               by_cases c114 : (rd ((rd_T29 l0_0 x7_1).f3.f1) 0) = 49
               ·rw [if_pos c114] at H
                have c114b0 : ((rd ((rd_T29 l0_0 x7_1).f3.f1) 0) == 49) = true := beq_iff_eq.mpr c114
                have c114b1 : ((rd ((rd_T29 l0_0 x7_1).f3.f1) 0) != 49) = false := bne_eq_false_iff_eq.mpr c114
                clear c114
                by_cases c115 : x172004_26 = 4
                ·rw [if_pos c115] at H
                 have c115b0 : (x172004_26 == 4) = true := beq_iff_eq.mpr c115
                 have c115b1 : (x172004_26 != 4) = false := bne_eq_false_iff_eq.mpr c115
                 clear c115
                 have H' := Aside0.mk H
                 clear H; have b116 := NB175_160.out; have d116 := NB160_175.out; have b117 := NB175_171.out; have d117 := NB171_175.out; have b118 := NB175_198.out; have d118 := NB198_175.out
                 obtain ⟨z119_0, z119_1, z119_2, z119_3, z119_4, z119_5, z119_6, z119_7, z119_8, z119_9, z119_10, z119_11, z119_12⟩ := Sq.c13 BK175.out
                 obtain ⟨y119_0, y119_1, y119_2, y119_3, y119_4, y119_5, y119_6, y119_7, y119_8, y119_9, y119_10, y119_11, y119_12⟩ := Sq.f13 BK175.out
                 have b120 := NB198_160.out; have d120 := NB160_198.out; have b121 := NB198_171.out; have d121 := NB171_198.out
                 obtain ⟨z122_0, z122_1, z122_2, z122_3⟩ := Sq.c4 BK198.out
                 obtain ⟨y122_0, y122_1, y122_2, y122_3⟩ := Sq.f4 BK198.out
                 have b123 := NB171_160.out; have d123 := NB160_171.out
                 obtain ⟨z124_0, z124_1, z124_2, z124_3, z124_4, z124_5, z124_6, z124_7, z124_8⟩ := Sq.c9 BK171.out
                 obtain ⟨y124_0, y124_1, y124_2, y124_3, y124_4, y124_5, y124_6, y124_7, y124_8⟩ := Sq.f9 BK171.out
                 have p200 : 0 ≤ (0 : Int) := (by omega)
                 have q200 : 0 < (((rd_T29 l0_0 x7_1).f3.f1).length : Int) := of_decide_eq_true (by first | (with_reducible assumption) | assumption)
                 obtain ⟨ad200, e200, hx200_0⟩ := Kd.at_int HR174_12.out 0 p200 q200
                 cases e200
                 have qi200 : (0 < ((rd_T29 l0_0 x7_1).f3.f1).length) = True := eq_true (by omega)
                 (try rw [show ((0 : Int)).toNat = 0 from rfl] at hx200_0)
                 (try rw [Addr.add_zero'] at hx200_0)
                 replace hx200_0 := (HB.out.cell (World.block_lt_of_cell? w _ hx200_0)).trans hx200_0
                 replace p200 := eq_true p200
                 replace q200 := eq_true q200
                 have p201 : 0 ≤ (0 : Int) := (by omega)
                 have q201 : 0 < (((rd_T29 l0_0 x7_1).f3.f1).length : Int) := of_decide_eq_true (by first | (with_reducible assumption) | assumption)
                 obtain ⟨ad201, e201, hx201_0⟩ := Kd.at_int HR174_12.out 0 p201 q201
                 obtain rfl : ad200 = ad201 := (by injection e201)
                 have qi201 : (0 < ((rd_T29 l0_0 x7_1).f3.f1).length) = True := eq_true (by omega)
                 (try rw [show ((0 : Int)).toNat = 0 from rfl] at hx201_0)
                 (try rw [Addr.add_zero'] at hx201_0)
                 replace hx201_0 := (HB.out.cell (World.block_lt_of_cell? w _ hx201_0)).trans hx201_0
                 replace p201 := eq_true p201
                 replace q201 := eq_true q201
                 go_wp2
                 refine Cu.meet (by assumption) ?_ (by kernel_rfl) (by kernel_rfl)
                 try dsimp only [Cu.pick, Cu.nth]
                 exact ⟨_, (decide ((rd ((rd_T29 l0_0 x7_1).f3.f1) 0) ≤ 16)), Sq.e, H', ⟨by have := HK1.out; have := HJ9.out; have := HJ26.out; have := HJ84.out; first | omega | exact Nat.le_refl _⟩, ⟨Sq.rR HO_199002.out⟩, ⟨Sq.b BK160.out⟩, ⟨Sq.b BK171.out⟩, ⟨Sq.b BK175.out⟩, ⟨Sq.b BK198.out⟩, ⟨Sq.w HB.out⟩⟩
                rw [if_neg c115] at H
                have c115b0 : (x172004_26 == 4) = false := beq_eq_false_iff_ne.mpr c115
                have c115b1 : (x172004_26 != 4) = true := bne_iff_ne.mpr c115
                have H' := Aside0.mk H
                clear H; have b125 := NB175_160.out; have d125 := NB160_175.out; have b126 := NB175_171.out; have d126 := NB171_175.out; have b127 := NB175_198.out; have d127 := NB198_175.out
                obtain ⟨z128_0, z128_1, z128_2, z128_3, z128_4, z128_5, z128_6, z128_7, z128_8, z128_9, z128_10, z128_11, z128_12⟩ := Sq.c13 BK175.out
                obtain ⟨y128_0, y128_1, y128_2, y128_3, y128_4, y128_5, y128_6, y128_7, y128_8, y128_9, y128_10, y128_11, y128_12⟩ := Sq.f13 BK175.out
                have b129 := NB198_160.out; have d129 := NB160_198.out; have b130 := NB198_171.out; have d130 := NB171_198.out
                obtain ⟨z131_0, z131_1, z131_2, z131_3⟩ := Sq.c4 BK198.out
                obtain ⟨y131_0, y131_1, y131_2, y131_3⟩ := Sq.f4 BK198.out
                have b132 := NB171_160.out; have d132 := NB160_171.out
                obtain ⟨z133_0, z133_1, z133_2, z133_3, z133_4, z133_5, z133_6, z133_7, z133_8⟩ := Sq.c9 BK171.out
                obtain ⟨y133_0, y133_1, y133_2, y133_3, y133_4, y133_5, y133_6, y133_7, y133_8⟩ := Sq.f9 BK171.out
                have p200 : 0 ≤ (0 : Int) := (by omega)
                have q200 : 0 < (((rd_T29 l0_0 x7_1).f3.f1).length : Int) := of_decide_eq_true (by first | (with_reducible assumption) | assumption)
                obtain ⟨ad200, e200, hx200_0⟩ := Kd.at_int HR174_12.out 0 p200 q200
                cases e200
                have qi200 : (0 < ((rd_T29 l0_0 x7_1).f3.f1).length) = True := eq_true (by omega)
                (try rw [show ((0 : Int)).toNat = 0 from rfl] at hx200_0)
                (try rw [Addr.add_zero'] at hx200_0)
                replace hx200_0 := (HB.out.cell (World.block_lt_of_cell? w _ hx200_0)).trans hx200_0
                replace p200 := eq_true p200
                replace q200 := eq_true q200
                go_wp2
                refine Cu.meet (by assumption) ?_ (by kernel_rfl) (by kernel_rfl)
                try dsimp only [Cu.pick, Cu.nth]
                exact ⟨_, (true), Sq.e, H', ⟨by have := HK1.out; have := HJ9.out; have := HJ26.out; have := HJ84.out; first | omega | exact Nat.le_refl _⟩, ⟨Sq.rR HO_199002.out⟩, ⟨Sq.b BK160.out⟩, ⟨Sq.b BK171.out⟩, ⟨Sq.b BK175.out⟩, ⟨Sq.b BK198.out⟩, ⟨Sq.w HB.out⟩⟩
               rw [if_neg c114] at H
               have c114b0 : ((rd ((rd_T29 l0_0 x7_1).f3.f1) 0) == 49) = false := beq_eq_false_iff_ne.mpr c114
               have c114b1 : ((rd ((rd_T29 l0_0 x7_1).f3.f1) 0) != 49) = true := bne_iff_ne.mpr c114
               have H' := Aside0.mk H
               clear H; have b134 := NB175_160.out; have d134 := NB160_175.out; have b135 := NB175_171.out; have d135 := NB171_175.out; have b136 := NB175_198.out; have d136 := NB198_175.out
               obtain ⟨z137_0, z137_1, z137_2, z137_3, z137_4, z137_5, z137_6, z137_7, z137_8, z137_9, z137_10, z137_11, z137_12⟩ := Sq.c13 BK175.out
               obtain ⟨y137_0, y137_1, y137_2, y137_3, y137_4, y137_5, y137_6, y137_7, y137_8, y137_9, y137_10, y137_11, y137_12⟩ := Sq.f13 BK175.out
               have b138 := NB198_160.out; have d138 := NB160_198.out; have b139 := NB198_171.out; have d139 := NB171_198.out
               obtain ⟨z140_0, z140_1, z140_2, z140_3⟩ := Sq.c4 BK198.out
               obtain ⟨y140_0, y140_1, y140_2, y140_3⟩ := Sq.f4 BK198.out
               have b141 := NB171_160.out; have d141 := NB160_171.out
               obtain ⟨z142_0, z142_1, z142_2, z142_3, z142_4, z142_5, z142_6, z142_7, z142_8⟩ := Sq.c9 BK171.out
               obtain ⟨y142_0, y142_1, y142_2, y142_3, y142_4, y142_5, y142_6, y142_7, y142_8⟩ := Sq.f9 BK171.out
               have p200 : 0 ≤ (0 : Int) := (by omega)
               have q200 : 0 < (((rd_T29 l0_0 x7_1).f3.f1).length : Int) := of_decide_eq_true (by first | (with_reducible assumption) | assumption)
               obtain ⟨ad200, e200, hx200_0⟩ := Kd.at_int HR174_12.out 0 p200 q200
               cases e200
               have qi200 : (0 < ((rd_T29 l0_0 x7_1).f3.f1).length) = True := eq_true (by omega)
               (try rw [show ((0 : Int)).toNat = 0 from rfl] at hx200_0)
               (try rw [Addr.add_zero'] at hx200_0)
               replace hx200_0 := (HB.out.cell (World.block_lt_of_cell? w _ hx200_0)).trans hx200_0
               replace p200 := eq_true p200
               replace q200 := eq_true q200
               go_wp2
               refine Cu.meet (by assumption) ?_ (by kernel_rfl) (by kernel_rfl)
               try dsimp only [Cu.pick, Cu.nth]
               exact ⟨_, (false), Sq.e, H', ⟨by have := HK1.out; have := HJ9.out; have := HJ26.out; have := HJ84.out; first | omega | exact Nat.le_refl _⟩, ⟨Sq.rR HO_199002.out⟩, ⟨Sq.b BK160.out⟩, ⟨Sq.b BK171.out⟩, ⟨Sq.b BK175.out⟩, ⟨Sq.b BK198.out⟩, ⟨Sq.w HB.out⟩⟩
              rw [if_neg c112] at H
              have c112b0 : (x172004_26 == 1) = false := beq_eq_false_iff_ne.mpr c112
              have c112b1 : (x172004_26 != 1) = true := bne_iff_ne.mpr c112
              by_cases c143 : x172004_26 = 4
              ·rw [if_pos c143] at H
               have c143b0 : (x172004_26 == 4) = true := beq_iff_eq.mpr c143
               have c143b1 : (x172004_26 != 4) = false := bne_eq_false_iff_eq.mpr c143
               clear c143
               by_cases c144 : 0 < (((rd_T29 l0_0 x7_1).f3.f1).length : Int)
               rotate_left
               ·rw [if_neg c144] at H
                exact absurd H (by simp)
               rw [if_pos c144] at H
               have c144b0 : decide (0 < (((rd_T29 l0_0 x7_1).f3.f1).length : Int)) = true := decide_eq_true c144
               have c144b1 : decide (0 < ((rd_T29 l0_0 x7_1).f3.f1).length) = true := decide_eq_true (by omega)
               clear c144
               have H' := Aside0.mk H
               clear H; have b145 := NB175_160.out; have d145 := NB160_175.out; have b146 := NB175_171.out; have d146 := NB171_175.out; have b147 := NB175_198.out; have d147 := NB198_175.out
               obtain ⟨z148_0, z148_1, z148_2, z148_3, z148_4, z148_5, z148_6, z148_7, z148_8, z148_9, z148_10, z148_11, z148_12⟩ := Sq.c13 BK175.out
               obtain ⟨y148_0, y148_1, y148_2, y148_3, y148_4, y148_5, y148_6, y148_7, y148_8, y148_9, y148_10, y148_11, y148_12⟩ := Sq.f13 BK175.out
               have b149 := NB198_160.out; have d149 := NB160_198.out; have b150 := NB198_171.out; have d150 := NB171_198.out
               obtain ⟨z151_0, z151_1, z151_2, z151_3⟩ := Sq.c4 BK198.out
               obtain ⟨y151_0, y151_1, y151_2, y151_3⟩ := Sq.f4 BK198.out
               have b152 := NB171_160.out; have d152 := NB160_171.out
               obtain ⟨z153_0, z153_1, z153_2, z153_3, z153_4, z153_5, z153_6, z153_7, z153_8⟩ := Sq.c9 BK171.out
               obtain ⟨y153_0, y153_1, y153_2, y153_3, y153_4, y153_5, y153_6, y153_7, y153_8⟩ := Sq.f9 BK171.out
               have p202 : 0 ≤ (0 : Int) := (by omega)
               have q202 : 0 < (((rd_T29 l0_0 x7_1).f3.f1).length : Int) := of_decide_eq_true (by first | (with_reducible assumption) | assumption)
               obtain ⟨ad202, e202, hx202_0⟩ := Kd.at_int HR174_12.out 0 p202 q202
               cases e202
               have qi202 : (0 < ((rd_T29 l0_0 x7_1).f3.f1).length) = True := eq_true (by omega)
               (try rw [show ((0 : Int)).toNat = 0 from rfl] at hx202_0)
               (try rw [Addr.add_zero'] at hx202_0)
               replace hx202_0 := (HB.out.cell (World.block_lt_of_cell? w _ hx202_0)).trans hx202_0
               replace p202 := eq_true p202
               replace q202 := eq_true q202
               go_wp2
               refine Cu.meet (by assumption) ?_ (by kernel_rfl) (by kernel_rfl)
               try dsimp only [Cu.pick, Cu.nth]
               exact ⟨_, (decide ((rd ((rd_T29 l0_0 x7_1).f3.f1) 0) ≤ 16)), Sq.e, H', ⟨by have := HK1.out; have := HJ9.out; have := HJ26.out; have := HJ84.out; first | omega | exact Nat.le_refl _⟩, ⟨Sq.rR HO_199002.out⟩, ⟨Sq.b BK160.out⟩, ⟨Sq.b BK171.out⟩, ⟨Sq.b BK175.out⟩, ⟨Sq.b BK198.out⟩, ⟨Sq.w HB.out⟩⟩
              rw [if_neg c143] at H
              have c143b0 : (x172004_26 == 4) = false := beq_eq_false_iff_ne.mpr c143
              have c143b1 : (x172004_26 != 4) = true := bne_iff_ne.mpr c143
              have H' := Aside0.mk H
              clear H; have b154 := NB175_160.out; have d154 := NB160_175.out; have b155 := NB175_171.out; have d155 := NB171_175.out; have b156 := NB175_198.out; have d156 := NB198_175.out
              obtain ⟨z157_0, z157_1, z157_2, z157_3, z157_4, z157_5, z157_6, z157_7, z157_8, z157_9, z157_10, z157_11, z157_12⟩ := Sq.c13 BK175.out
              obtain ⟨y157_0, y157_1, y157_2, y157_3, y157_4, y157_5, y157_6, y157_7, y157_8, y157_9, y157_10, y157_11, y157_12⟩ := Sq.f13 BK175.out
              have b158 := NB198_160.out; have d158 := NB160_198.out; have b159 := NB198_171.out; have d159 := NB171_198.out
              obtain ⟨z160_0, z160_1, z160_2, z160_3⟩ := Sq.c4 BK198.out
              obtain ⟨y160_0, y160_1, y160_2, y160_3⟩ := Sq.f4 BK198.out
              have b161 := NB171_160.out; have d161 := NB160_171.out
              obtain ⟨z162_0, z162_1, z162_2, z162_3, z162_4, z162_5, z162_6, z162_7, z162_8⟩ := Sq.c9 BK171.out
              obtain ⟨y162_0, y162_1, y162_2, y162_3, y162_4, y162_5, y162_6, y162_7, y162_8⟩ := Sq.f9 BK171.out
              go_wp2
              refine Cu.meet (by assumption) ?_ (by kernel_rfl) (by kernel_rfl)
              try dsimp only [Cu.pick, Cu.nth]
              exact ⟨_, (true), Sq.e, H', ⟨by have := HK1.out; have := HJ9.out; have := HJ26.out; have := HJ84.out; first | omega | exact Nat.le_refl _⟩, ⟨Sq.rR HO_199002.out⟩, ⟨Sq.b BK160.out⟩, ⟨Sq.b BK171.out⟩, ⟨Sq.b BK175.out⟩, ⟨Sq.b BK198.out⟩, ⟨Sq.w HB.out⟩⟩
             rw [if_neg c111] at H
             have c111b0 : ((((rd_T29 l0_0 x7_1).f3.f1).length : Int) == t195) = false := beq_eq_false_iff_ne.mpr c111
             have c111b1 : ((((rd_T29 l0_0 x7_1).f3.f1).length : Int) != t195) = true := bne_iff_ne.mpr c111
             have H' := Aside0.mk H
             clear H; have b163 := NB175_160.out; have d163 := NB160_175.out; have b164 := NB175_171.out; have d164 := NB171_175.out; have b165 := NB175_198.out; have d165 := NB198_175.out
             obtain ⟨z166_0, z166_1, z166_2, z166_3, z166_4, z166_5, z166_6, z166_7, z166_8, z166_9, z166_10, z166_11, z166_12⟩ := Sq.c13 BK175.out
             obtain ⟨y166_0, y166_1, y166_2, y166_3, y166_4, y166_5, y166_6, y166_7, y166_8, y166_9, y166_10, y166_11, y166_12⟩ := Sq.f13 BK175.out
             have b167 := NB198_160.out; have d167 := NB160_198.out; have b168 := NB198_171.out; have d168 := NB171_198.out
             obtain ⟨z169_0, z169_1, z169_2, z169_3⟩ := Sq.c4 BK198.out
             obtain ⟨y169_0, y169_1, y169_2, y169_3⟩ := Sq.f4 BK198.out
             go_wp2
             refine Cu.meet (by assumption) ?_ (by kernel_rfl) (by kernel_rfl)
             try dsimp only [Cu.pick, Cu.nth]
             exact ⟨_, (false), Sq.e, H', ⟨by have := HK1.out; have := HJ9.out; have := HJ26.out; have := HJ84.out; first | omega | exact Nat.le_refl _⟩, ⟨Sq.rR HO_199002.out⟩, ⟨Sq.b BK160.out⟩, ⟨Sq.b BK171.out⟩, ⟨Sq.b BK175.out⟩, ⟨Sq.b BK198.out⟩, ⟨Sq.w HB.out⟩⟩
            rw [if_neg c110] at H
            have c110b0 : (((rd_T29 l0_0 x7_1).f3.f0) == 1) = false := beq_eq_false_iff_ne.mpr c110
            have c110b1 : (((rd_T29 l0_0 x7_1).f3.f0) != 1) = true := bne_iff_ne.mpr c110
            (first | rw [c110b0] | (simp only [i64_w, i32_w]; rw [c110b0]) | skip)
            have H' := Aside0.mk H
            clear H; have b170 := NB175_160.out; have d170 := NB160_175.out; have b171 := NB175_171.out; have d171 := NB171_175.out; have b172 := NB175_198.out; have d172 := NB198_175.out
            obtain ⟨z173_0, z173_1, z173_2, z173_3, z173_4, z173_5, z173_6, z173_7, z173_8, z173_9, z173_10, z173_11, z173_12⟩ := Sq.c13 BK175.out
            obtain ⟨y173_0, y173_1, y173_2, y173_3, y173_4, y173_5, y173_6, y173_7, y173_8, y173_9, y173_10, y173_11, y173_12⟩ := Sq.f13 BK175.out
            go_wp2
            refine Cu.meet (by assumption) ?_ (by kernel_rfl) (by kernel_rfl)
            try dsimp only [Cu.pick, Cu.nth]
            exact ⟨_, (false), Sq.e, H', ⟨by have := HK1.out; have := HJ9.out; have := HJ26.out; have := HJ84.out; first | omega | exact Nat.le_refl _⟩, ⟨Sq.rR HO_199002.out⟩, ⟨Sq.b BK160.out⟩, ⟨Sq.b BK171.out⟩, ⟨Sq.b BK175.out⟩, ⟨Sq.b BK198.out⟩, ⟨Sq.w HB.out⟩⟩
           ·
            intro wc u15 u27 u28 u29 u30 u31 u32 u33 u34 u35 u36 u37 u38 u39 u40 u41 u42 u43 u44 u45 u46 u47 u48 u49 u50 u51 u52 u53 u54 u55 u56 u57 u58 u59 u60 u61 u62 u63 u64 u65 u66 u67 u68 u69 u70 u71 u72 u73 u74 u75 u76 u77 u78 u79 u80 u81 u82 u83 u84 u85 u86 u87 u88 u89 u90 u91 u92 u93 u94 u95 u96 u97 u98 u99 u100 u101 u102 u103 u104 u105 u106 u107 u108 u109 u110 u111 u112 u113 u114 u115 u116 u117 u118 u119 u120 u121 u122 u123 u124 u125 u126 u127 u128 u129 u130 u131 u132 u133 u134 u135 u136 u137 u138 u139 u140 u141 u142 u143 u144 u145 u146 u147 u148 u150 u151 u152 u153 u154 u155 u156 u157 u158 u159 u160 u161 u162 u163 u164 u165 u166 u167 u168 u169 u170 u171 u172 u173 u174 u175 u176 u177 u178 u179 u180 u181 u182 u183 u184 u185 u186 u187 u188 u189 u190 u191 u192 u193 u194 u195 u196 u197 u198 u199 u200 u201 u202
            try dsimp only [Cu.over, Cu.nth]
            intro hcut
            clear HC109; (try clear c16); (try clear c107); (try clear c108)
            obtain ⟨kq, x15_108, rfl, HA, HJ108, HO_199002, BK160, BK171, BK175, BK198, HB⟩ := hcut
            cases kq with
            | zero => exact absurd HA.out (by simp [gimballaw9_DrvFails.j4])
            | succ kj108 =>
             have H := HA.out
             clear HA
             simp only [gimballaw9_DrvFails.j4] at H
             replace H := Option.bind_eq_some_iff.mp H
             obtain ⟨⟨t203, t204, t205, t206, t207, t208, t209, t210, t211, t212, t215, t216⟩, A1740, H⟩ := H
             replace H : ((gimballaw9_num.f t216).bind fun t218 => (if t218 = 0 then (if x15_108 = true then (if x172004_26 = 7 then (if t207 = 0 then (gimballaw9_DrvFails.j5 kj108 0 false x7_1 x15_108 t215 l0_0 x172000_26 x172001_26 x172002_26 x172003_26 x172004_26 x172005_26 x172006_26 x172007_26 x172008_26 t203 t204 t205 t206 t207 t208 t209 t210 t211) else (if x172004_26 = 3 then (if t207 = 4 then (gimballaw9_DrvFails.j5 kj108 0 false x7_1 x15_108 t215 l0_0 x172000_26 x172001_26 x172002_26 x172003_26 x172004_26 x172005_26 x172006_26 x172007_26 x172008_26 t203 t204 t205 t206 t207 t208 t209 t210 t211) else (gimballaw9_DrvFails.j5 kj108 0 true x7_1 x15_108 t215 l0_0 x172000_26 x172001_26 x172002_26 x172003_26 x172004_26 x172005_26 x172006_26 x172007_26 x172008_26 t203 t204 t205 t206 t207 t208 t209 t210 t211)) else (gimballaw9_DrvFails.j5 kj108 0 true x7_1 x15_108 t215 l0_0 x172000_26 x172001_26 x172002_26 x172003_26 x172004_26 x172005_26 x172006_26 x172007_26 x172008_26 t203 t204 t205 t206 t207 t208 t209 t210 t211))) else (if t207 = 0 then (gimballaw9_DrvFails.j5 kj108 0 false x7_1 x15_108 t215 l0_0 x172000_26 x172001_26 x172002_26 x172003_26 x172004_26 x172005_26 x172006_26 x172007_26 x172008_26 t203 t204 t205 t206 t207 t208 t209 t210 t211) else (if x172004_26 = 3 then (if t207 = 4 then (gimballaw9_DrvFails.j5 kj108 0 false x7_1 x15_108 t215 l0_0 x172000_26 x172001_26 x172002_26 x172003_26 x172004_26 x172005_26 x172006_26 x172007_26 x172008_26 t203 t204 t205 t206 t207 t208 t209 t210 t211) else (gimballaw9_DrvFails.j5 kj108 0 x6_1 x7_1 x15_108 t215 l0_0 x172000_26 x172001_26 x172002_26 x172003_26 x172004_26 x172005_26 x172006_26 x172007_26 x172008_26 t203 t204 t205 t206 t207 t208 t209 t210 t211)) else (gimballaw9_DrvFails.j5 kj108 0 x6_1 x7_1 x15_108 t215 l0_0 x172000_26 x172001_26 x172002_26 x172003_26 x172004_26 x172005_26 x172006_26 x172007_26 x172008_26 t203 t204 t205 t206 t207 t208 t209 t210 t211)))) else (gimballaw9_DrvFails.j5 kj108 (wrap64 (x5_26 + 1)) x6_1 x7_1 x15_108 t215 l0_0 x172000_26 x172001_26 x172002_26 x172003_26 x172004_26 x172005_26 x172006_26 x172007_26 x172008_26 t203 t204 t205 t206 t207 t208 t209 t210 t211)) else (some false))) = some r := H
             have A174 := Aside0.mk A1740
             clear A1740
             replace H := Option.bind_eq_some_iff.mp H
             obtain ⟨t218, A1750, H⟩ := H
             replace H : (if t218 = 0 then (if x15_108 = true then (if x172004_26 = 7 then (if t207 = 0 then (gimballaw9_DrvFails.j5 kj108 0 false x7_1 x15_108 t215 l0_0 x172000_26 x172001_26 x172002_26 x172003_26 x172004_26 x172005_26 x172006_26 x172007_26 x172008_26 t203 t204 t205 t206 t207 t208 t209 t210 t211) else (if x172004_26 = 3 then (if t207 = 4 then (gimballaw9_DrvFails.j5 kj108 0 false x7_1 x15_108 t215 l0_0 x172000_26 x172001_26 x172002_26 x172003_26 x172004_26 x172005_26 x172006_26 x172007_26 x172008_26 t203 t204 t205 t206 t207 t208 t209 t210 t211) else (gimballaw9_DrvFails.j5 kj108 0 true x7_1 x15_108 t215 l0_0 x172000_26 x172001_26 x172002_26 x172003_26 x172004_26 x172005_26 x172006_26 x172007_26 x172008_26 t203 t204 t205 t206 t207 t208 t209 t210 t211)) else (gimballaw9_DrvFails.j5 kj108 0 true x7_1 x15_108 t215 l0_0 x172000_26 x172001_26 x172002_26 x172003_26 x172004_26 x172005_26 x172006_26 x172007_26 x172008_26 t203 t204 t205 t206 t207 t208 t209 t210 t211))) else (if t207 = 0 then (gimballaw9_DrvFails.j5 kj108 0 false x7_1 x15_108 t215 l0_0 x172000_26 x172001_26 x172002_26 x172003_26 x172004_26 x172005_26 x172006_26 x172007_26 x172008_26 t203 t204 t205 t206 t207 t208 t209 t210 t211) else (if x172004_26 = 3 then (if t207 = 4 then (gimballaw9_DrvFails.j5 kj108 0 false x7_1 x15_108 t215 l0_0 x172000_26 x172001_26 x172002_26 x172003_26 x172004_26 x172005_26 x172006_26 x172007_26 x172008_26 t203 t204 t205 t206 t207 t208 t209 t210 t211) else (gimballaw9_DrvFails.j5 kj108 0 x6_1 x7_1 x15_108 t215 l0_0 x172000_26 x172001_26 x172002_26 x172003_26 x172004_26 x172005_26 x172006_26 x172007_26 x172008_26 t203 t204 t205 t206 t207 t208 t209 t210 t211)) else (gimballaw9_DrvFails.j5 kj108 0 x6_1 x7_1 x15_108 t215 l0_0 x172000_26 x172001_26 x172002_26 x172003_26 x172004_26 x172005_26 x172006_26 x172007_26 x172008_26 t203 t204 t205 t206 t207 t208 t209 t210 t211)))) else (gimballaw9_DrvFails.j5 kj108 (wrap64 (x5_26 + 1)) x6_1 x7_1 x15_108 t215 l0_0 x172000_26 x172001_26 x172002_26 x172003_26 x172004_26 x172005_26 x172006_26 x172007_26 x172008_26 t203 t204 t205 t206 t207 t208 t209 t210 t211)) else (some false)) = some r := H
             have A175 := Aside0.mk A1750
             clear A1750
             by_cases c176 : t218 = 0
             rotate_left
             ·rw [if_neg c176] at H
              have c176b0 : (t218 == 0) = false := beq_eq_false_iff_ne.mpr c176
              have c176b1 : (t218 != 0) = true := bne_iff_ne.mpr c176
              exact absurd ((Option.some.inj H).trans hrt_.out) (by simp)
             rw [if_pos c176] at H
             have c176b0 : (t218 == 0) = true := beq_iff_eq.mpr c176
             have c176b1 : (t218 != 0) = false := bne_eq_false_iff_eq.mpr c176
             clear c176
             have HC177 := Aside0.mk H
             clear H; have b178 := NB171_160.out; have d178 := NB160_171.out; have b179 := NB171_175.out; have d179 := NB175_171.out; have b180 := NB171_198.out; have d180 := NB198_171.out
             obtain ⟨z181_0, z181_1, z181_2, z181_3, z181_4, z181_5, z181_6, z181_7, z181_8⟩ := Sq.c9 BK171.out
             obtain ⟨y181_0, y181_1, y181_2, y181_3, y181_4, y181_5, y181_6, y181_7, y181_8⟩ := Sq.f9 BK171.out
             have b182 := NB175_160.out; have d182 := NB160_175.out; have b183 := NB175_198.out; have d183 := NB198_175.out
             obtain ⟨z184_0, z184_1, z184_2, z184_3, z184_4, z184_5, z184_6, z184_7, z184_8, z184_9, z184_10, z184_11, z184_12⟩ := Sq.c13 BK175.out
             obtain ⟨y184_0, y184_1, y184_2, y184_3, y184_4, y184_5, y184_6, y184_7, y184_8, y184_9, y184_10, y184_11, y184_12⟩ := Sq.f13 BK175.out
             go_upto_block 2 with (first | ((with_reducible refine gate_callee (f := 18) rfl ?_); refine goesL_ (some 139) rfl rfl Try.func18 (by kernel_rfl) rfl #[.agg #[.int .i64 x172000_26, .int .i64 x172001_26, .bool x172002_26, .int .i64 x172003_26, .int .i64 x172004_26, .int .i64 x172005_26, .bool x172006_26, .int .i64 x172007_26, .int .i64 x172008_26], .agg #[.int .i64 ((rd_T29 l0_0 x7_1).f3.f0), .slice A174_12 ((rd_T29 l0_0 x7_1).f3.f1).length c174_12]] rfl Sq.m ?_; (with_reducible refine (drv_Take.calls kj108 x172000_26 x172001_26 x172002_26 x172003_26 x172004_26 x172005_26 x172006_26 x172007_26 x172008_26 ((rd_T29 l0_0 x7_1).f3.f0) _ _ ((rd_T29 l0_0 x7_1).f3.f1) t203 t204 t205 t206 t207 t208 t209 t210 t211 t212 t215 t216 _ ?side1 ?side2 A174.out).mono ?_); (case side1 => repeat (first | exact (Kd.C_below HR174_12.out HB.out) | (with_reducible refine Kd.C_alloc ?_ _) | (with_reducible refine Kd.C_drewN ?_ _) | (with_reducible refine Kd.C_drew ?_))); (case side2 => exact HC174_12.out); rintro e w185 ⟨v213, rfl, ho0, hb⟩; refine ⟨_, rfl, ?_⟩; have HO214 := Aside0.mk (Kd.R_lower ho0 (below_size (Sq.w HB.out))); replace HO_199002 := Sq.sR HO_199002 hb; replace BK160 := Sq.sb BK160 hb; replace BK171 := Sq.sb BK171 hb; replace BK175 := Sq.sb BK175 hb; replace BK198 := Sq.sb BK198 hb; replace HB := Sq.sw HB hb; ) | ((with_reducible refine gate_dst (N := 16) rfl ?_); (try (refine gate_guard (by rfl) ?_; dsimp only)); refine box_event ?hg (N := 16) ?hd (cs := #[.int .i64 0, .int .i64 0, .bool false, .int .i64 0, .int .i64 0, .int .i64 0, .bool false, .int .i64 0, .int .i64 0]) (t := 24) ?hr ?_; (case hd => rfl); (case hg => rfl); (case hr => first | (go_simp; done) | (go_simp; rfl)); intro gb217 hg w186 hbox hb; have BK217 := Aside0.mk hbox; have GW217 := Sq.ge hg HB; have GE217 := Sq.ge hg HB; obtain ⟨NB160_217, NB217_160⟩ := Sq.np hg BK160; obtain ⟨NB171_217, NB217_171⟩ := Sq.np hg BK171; obtain ⟨NB175_217, NB217_175⟩ := Sq.np hg BK175; obtain ⟨NB198_217, NB217_198⟩ := Sq.np hg BK198; replace HO_199002 := Sq.sR HO_199002 hb; replace HO214 := Sq.sR HO214 hb; replace BK160 := Sq.sb BK160 hb; replace BK171 := Sq.sb BK171 hb; replace BK175 := Sq.sb BK175 hb; replace BK198 := Sq.sb BK198 hb; replace HB := Sq.sw HB hb; clear hb hbox hg; have b187 := NB217_160.out; have d187 := NB160_217.out; have b188 := NB217_171.out; have d188 := NB171_217.out; have b189 := NB217_175.out; have d189 := NB175_217.out; have b190 := NB217_198.out; have d190 := NB198_217.out; obtain ⟨z191_0, z191_1, z191_2, z191_3, z191_4, z191_5, z191_6, z191_7, z191_8⟩ := Sq.c9 BK217.out; obtain ⟨y191_0, y191_1, y191_2, y191_3, y191_4, y191_5, y191_6, y191_7, y191_8⟩ := Sq.f9 BK217.out) | ((with_reducible refine gate_callee (f := 11) rfl ?_); refine goesL_ (some 145) rfl rfl Try.func11 (by kernel_rfl) rfl #[.int .i64 t216] rfl Sq.m ?_; (with_reducible refine (gimballaw9_num.calls t216 t218 _ A175.out).mono ?_); rintro e w' ⟨rfl, ⟨nd, rfl⟩⟩; refine ⟨_, rfl, ?_⟩))
             (try simp only [Act.put, List.setIfInBounds_toArray, List.set_cons_zero, List.set_cons_succ])
             refine Cu.wp_cut (Cu.f :: Cu.f :: Cu.f :: Cu.f :: Cu.f :: Cu.t :: Cu.t :: Cu.f :: Cu.f :: Cu.f :: Cu.f :: Cu.f :: Cu.f :: Cu.f :: Cu.f :: Cu.f :: Cu.f :: Cu.f :: Cu.f :: Cu.f :: Cu.f :: Cu.f :: Cu.f :: Cu.f :: Cu.f :: Cu.f :: Cu.f :: Cu.t :: Cu.t :: Cu.t :: Cu.t :: Cu.t :: Cu.t :: Cu.t :: Cu.t :: Cu.t :: Cu.t :: Cu.t :: Cu.t :: Cu.t :: Cu.t :: Cu.t :: Cu.t :: Cu.t :: Cu.t :: Cu.t :: Cu.t :: Cu.t :: Cu.t :: Cu.t :: Cu.t :: Cu.t :: Cu.t :: Cu.t :: Cu.t :: Cu.t :: Cu.t :: Cu.t :: Cu.t :: Cu.t :: Cu.t :: Cu.t :: Cu.t :: Cu.t :: Cu.t :: Cu.t :: Cu.t :: Cu.t :: Cu.t :: Cu.t :: Cu.t :: Cu.t :: Cu.t :: Cu.t :: Cu.t :: Cu.t :: Cu.t :: Cu.t :: Cu.t :: Cu.t :: Cu.t :: Cu.t :: Cu.t :: Cu.t :: Cu.t :: Cu.t :: Cu.t :: Cu.t :: Cu.t :: Cu.t :: Cu.t :: Cu.t :: Cu.t :: Cu.t :: Cu.t :: Cu.t :: Cu.t :: Cu.t :: Cu.t :: Cu.t :: Cu.t :: Cu.t :: Cu.t :: Cu.t :: Cu.t :: Cu.t :: Cu.t :: Cu.t :: Cu.t :: Cu.t :: Cu.t :: Cu.t :: Cu.t :: Cu.t :: Cu.t :: Cu.t :: Cu.t :: Cu.t :: Cu.t :: Cu.t :: Cu.t :: Cu.t :: Cu.t :: Cu.t :: Cu.t :: Cu.t :: Cu.t :: Cu.t :: Cu.t :: Cu.t :: Cu.t :: Cu.t :: Cu.t :: Cu.t :: Cu.t :: Cu.t :: Cu.t :: Cu.t :: Cu.t :: Cu.t :: Cu.t :: Cu.t :: Cu.t :: Cu.t :: Cu.t :: Cu.t :: Cu.t :: Cu.t :: Cu.t :: Cu.t :: Cu.t :: Cu.t :: Cu.t :: Cu.t :: Cu.t :: Cu.t :: Cu.t :: Cu.t :: Cu.t :: Cu.t :: Cu.t :: Cu.t :: Cu.t :: Cu.t :: Cu.t :: Cu.t :: Cu.t :: Cu.t :: Cu.t :: Cu.t :: Cu.t :: Cu.t :: Cu.t :: Cu.t :: Cu.t :: Cu.t :: Cu.t :: Cu.t :: Cu.t :: Cu.t :: Cu.t :: Cu.t :: Cu.t :: Cu.t :: Cu.t :: Cu.t :: Cu.t :: Cu.t :: Cu.t :: Cu.t :: Cu.t :: Cu.t :: Cu.t :: Cu.t :: Cu.t :: Cu.t :: Cu.t :: Cu.t :: Cu.t :: Cu.t :: Cu.t :: Cu.t :: Cu.t :: Cu.f :: []) 178 (fun us_ wc => ∃ (kq : Nat) (x5_176 : Int) (x6_176 : Bool), (Cu.nth us_ 0) = .int .i64 x5_176 ∧ (Cu.nth us_ 1) = .bool x6_176 ∧ Aside0 (gimballaw9_DrvFails.j5 kq x5_176 x6_176 x7_1 x15_108 t215 l0_0 x172000_26 x172001_26 x172002_26 x172003_26 x172004_26 x172005_26 x172006_26 x172007_26 x172008_26 t203 t204 t205 t206 t207 t208 t209 t210 t211 = some r) ∧ Aside0 (kq ≤ kj108) ∧ Aside0 (Kd.R (Kd.int .u8) 5 wc w.heap.size (fun _ => True) (.slice Ao95 t192.length co95) t192) ∧ Aside0 (wc.heap[gb160]? = some (.cells #[(.slice (some ad174) l0_0.length c0_0)] 44 (0, 0))) ∧ Aside0 (wc.heap[gb171]? = some (.cells #[.int .i64 x172000_26, .int .i64 x172001_26, .bool x172002_26, .int .i64 x172003_26, .int .i64 x172004_26, .int .i64 x172005_26, .bool x172006_26, .int .i64 x172007_26, .int .i64 x172008_26] 24 (0, 0))) ∧ Aside0 (wc.heap[gb175]? = some (.cells #[.int .i64 ((rd_T29 l0_0 x7_1).f0.f0), .int .i64 ((rd_T29 l0_0 x7_1).f0.f1), .bool ((rd_T29 l0_0 x7_1).f0.f2), .int .i64 ((rd_T29 l0_0 x7_1).f0.f3), .int .i64 ((rd_T29 l0_0 x7_1).f0.f4), .int .i64 ((rd_T29 l0_0 x7_1).f0.f5), .bool ((rd_T29 l0_0 x7_1).f0.f6), .int .i64 ((rd_T29 l0_0 x7_1).f0.f7), .int .i64 ((rd_T29 l0_0 x7_1).f0.f8), .bool ((rd_T29 l0_0 x7_1).f1), .int .i64 ((rd_T29 l0_0 x7_1).f2), .int .i64 ((rd_T29 l0_0 x7_1).f3.f0), (.slice A174_12 ((rd_T29 l0_0 x7_1).f3.f1).length c174_12)] 29 (0, 0))) ∧ Aside0 (wc.heap[gb198]? = some (.cells #[.int .i64 t190, .int .i64 t191, (.slice Ao95 t192.length co95), .int .i64 t195] 31 (0, 0))) ∧ Aside0 (wc.heap[gb217]? = some (.cells #[.int .i64 t203, .int .i64 t204, .bool t205, .int .i64 t206, .int .i64 t207, .int .i64 t208, .bool t209, .int .i64 t210, .int .i64 t211] 24 (0, 0))) ∧ Aside0 (Below w.heap.size w wc)) ?_ ?_
             ·
              intro _ _ _ _
              have H := HC177.out
              clear HC177
              by_cases c192 : x15_108 = true
              ·subst c192
               have H1 : (if x172004_26 = 7 then (if t207 = 0 then (gimballaw9_DrvFails.j5 kj108 0 false x7_1 true t215 l0_0 x172000_26 x172001_26 x172002_26 x172003_26 x172004_26 x172005_26 x172006_26 x172007_26 x172008_26 t203 t204 t205 t206 t207 t208 t209 t210 t211) else (if x172004_26 = 3 then (if t207 = 4 then (gimballaw9_DrvFails.j5 kj108 0 false x7_1 true t215 l0_0 x172000_26 x172001_26 x172002_26 x172003_26 x172004_26 x172005_26 x172006_26 x172007_26 x172008_26 t203 t204 t205 t206 t207 t208 t209 t210 t211) else (gimballaw9_DrvFails.j5 kj108 0 true x7_1 true t215 l0_0 x172000_26 x172001_26 x172002_26 x172003_26 x172004_26 x172005_26 x172006_26 x172007_26 x172008_26 t203 t204 t205 t206 t207 t208 t209 t210 t211)) else (gimballaw9_DrvFails.j5 kj108 0 true x7_1 true t215 l0_0 x172000_26 x172001_26 x172002_26 x172003_26 x172004_26 x172005_26 x172006_26 x172007_26 x172008_26 t203 t204 t205 t206 t207 t208 t209 t210 t211))) else (if t207 = 0 then (gimballaw9_DrvFails.j5 kj108 0 false x7_1 true t215 l0_0 x172000_26 x172001_26 x172002_26 x172003_26 x172004_26 x172005_26 x172006_26 x172007_26 x172008_26 t203 t204 t205 t206 t207 t208 t209 t210 t211) else (if x172004_26 = 3 then (if t207 = 4 then (gimballaw9_DrvFails.j5 kj108 0 false x7_1 true t215 l0_0 x172000_26 x172001_26 x172002_26 x172003_26 x172004_26 x172005_26 x172006_26 x172007_26 x172008_26 t203 t204 t205 t206 t207 t208 t209 t210 t211) else (gimballaw9_DrvFails.j5 kj108 0 x6_1 x7_1 true t215 l0_0 x172000_26 x172001_26 x172002_26 x172003_26 x172004_26 x172005_26 x172006_26 x172007_26 x172008_26 t203 t204 t205 t206 t207 t208 t209 t210 t211)) else (gimballaw9_DrvFails.j5 kj108 0 x6_1 x7_1 true t215 l0_0 x172000_26 x172001_26 x172002_26 x172003_26 x172004_26 x172005_26 x172006_26 x172007_26 x172008_26 t203 t204 t205 t206 t207 t208 t209 t210 t211)))) = some r := by rw [if_pos rfl] at H; exact H
               clear H
               have H := H1
               clear H1
               by_cases c193 : x172004_26 = 7
               ·rw [if_pos c193] at H
                have c193b0 : (x172004_26 == 7) = true := beq_iff_eq.mpr c193
                have c193b1 : (x172004_26 != 7) = false := bne_eq_false_iff_eq.mpr c193
                clear c193
                (first | rw [c193b0] | (simp only [i64_w, i32_w]; rw [c193b0]) | skip)
                by_cases c194 : t207 = 0
                ·rw [if_pos c194] at H
                 have c194b0 : (t207 == 0) = true := beq_iff_eq.mpr c194
                 have c194b1 : (t207 != 0) = false := bne_eq_false_iff_eq.mpr c194
                 clear c194
                 have H' := Aside0.mk H
                 clear H; have b195 := NB171_160.out; have d195 := NB160_171.out; have b196 := NB171_175.out; have d196 := NB175_171.out; have b197 := NB171_198.out; have d197 := NB198_171.out; have b198 := NB171_217.out; have d198 := NB217_171.out
                 obtain ⟨z199_0, z199_1, z199_2, z199_3, z199_4, z199_5, z199_6, z199_7, z199_8⟩ := Sq.c9 BK171.out
                 obtain ⟨y199_0, y199_1, y199_2, y199_3, y199_4, y199_5, y199_6, y199_7, y199_8⟩ := Sq.f9 BK171.out
                 have b200 := NB217_160.out; have d200 := NB160_217.out; have b201 := NB217_175.out; have d201 := NB175_217.out; have b202 := NB217_198.out; have d202 := NB198_217.out
                 obtain ⟨z203_0, z203_1, z203_2, z203_3, z203_4, z203_5, z203_6, z203_7, z203_8⟩ := Sq.c9 BK217.out
                 obtain ⟨y203_0, y203_1, y203_2, y203_3, y203_4, y203_5, y203_6, y203_7, y203_8⟩ := Sq.f9 BK217.out
                 go_wp2
                 refine Cu.meet (by assumption) ?_ (by kernel_rfl) (by kernel_rfl)
                 try dsimp only [Cu.pick, Cu.nth]
                 exact ⟨_, (0), (false), Sq.e, Sq.e, H', ⟨by have := HK1.out; have := HJ9.out; have := HJ26.out; have := HJ84.out; have := HJ108.out; first | omega | exact Nat.le_refl _⟩, ⟨Sq.rR (Kd.R_mono (Kd.R_far (p := ⟨gb217, 8, none⟩) (Kd.R_far (p := ⟨gb217, 7, none⟩) (Kd.R_far (p := ⟨gb217, 6, none⟩) (Kd.R_far (p := ⟨gb217, 5, none⟩) (Kd.R_far (p := ⟨gb217, 4, none⟩) (Kd.R_far (p := ⟨gb217, 3, none⟩) (Kd.R_far (p := ⟨gb217, 2, none⟩) (Kd.R_far (p := ⟨gb217, 1, none⟩) (Kd.R_far (p := ⟨gb217, 0, none⟩) (Kd.R_types HO_199002.out BK217.out (by decide)) (fun _ hk => hk.2) (.int .i64 t203)) (fun _ hk => hk.2) (.int .i64 t204)) (fun _ hk => hk.2) (.bool t205)) (fun _ hk => hk.2) (.int .i64 t206)) (fun _ hk => hk.2) (.int .i64 t207)) (fun _ hk => hk.2) (.int .i64 t208)) (fun _ hk => hk.2) (.bool t209)) (fun _ hk => hk.2) (.int .i64 t210)) (fun _ hk => hk.2) (.int .i64 t211)) (fun _ hk => trivial))⟩, ⟨Sq.F BK160.out⟩, ⟨Sq.F BK171.out⟩, ⟨Sq.F BK175.out⟩, ⟨Sq.F BK198.out⟩, ⟨Sq.B BK217.out⟩, ⟨Sq.w HB.out⟩⟩
                rw [if_neg c194] at H
                have c194b0 : (t207 == 0) = false := beq_eq_false_iff_ne.mpr c194
                have c194b1 : (t207 != 0) = true := bne_iff_ne.mpr c194
                by_cases c204 : x172004_26 = 3
                ·rw [if_pos c204] at H
                 have c204b0 : (x172004_26 == 3) = true := beq_iff_eq.mpr c204
                 have c204b1 : (x172004_26 != 3) = false := bne_eq_false_iff_eq.mpr c204
                 clear c204
                 by_cases c205 : t207 = 4
                 ·rw [if_pos c205] at H
                  have c205b0 : (t207 == 4) = true := beq_iff_eq.mpr c205
                  have c205b1 : (t207 != 4) = false := bne_eq_false_iff_eq.mpr c205
                  clear c205
                  have H' := Aside0.mk H
                  clear H; have b206 := NB171_160.out; have d206 := NB160_171.out; have b207 := NB171_175.out; have d207 := NB175_171.out; have b208 := NB171_198.out; have d208 := NB198_171.out; have b209 := NB171_217.out; have d209 := NB217_171.out
                  obtain ⟨z210_0, z210_1, z210_2, z210_3, z210_4, z210_5, z210_6, z210_7, z210_8⟩ := Sq.c9 BK171.out
                  obtain ⟨y210_0, y210_1, y210_2, y210_3, y210_4, y210_5, y210_6, y210_7, y210_8⟩ := Sq.f9 BK171.out
                  have b211 := NB217_160.out; have d211 := NB160_217.out; have b212 := NB217_175.out; have d212 := NB175_217.out; have b213 := NB217_198.out; have d213 := NB198_217.out
                  obtain ⟨z214_0, z214_1, z214_2, z214_3, z214_4, z214_5, z214_6, z214_7, z214_8⟩ := Sq.c9 BK217.out
                  obtain ⟨y214_0, y214_1, y214_2, y214_3, y214_4, y214_5, y214_6, y214_7, y214_8⟩ := Sq.f9 BK217.out
                  go_wp2
                  refine Cu.meet (by assumption) ?_ (by kernel_rfl) (by kernel_rfl)
                  try dsimp only [Cu.pick, Cu.nth]
                  exact ⟨_, (0), (false), Sq.e, Sq.e, H', ⟨by have := HK1.out; have := HJ9.out; have := HJ26.out; have := HJ84.out; have := HJ108.out; first | omega | exact Nat.le_refl _⟩, ⟨Sq.rR (Kd.R_mono (Kd.R_far (p := ⟨gb217, 8, none⟩) (Kd.R_far (p := ⟨gb217, 7, none⟩) (Kd.R_far (p := ⟨gb217, 6, none⟩) (Kd.R_far (p := ⟨gb217, 5, none⟩) (Kd.R_far (p := ⟨gb217, 4, none⟩) (Kd.R_far (p := ⟨gb217, 3, none⟩) (Kd.R_far (p := ⟨gb217, 2, none⟩) (Kd.R_far (p := ⟨gb217, 1, none⟩) (Kd.R_far (p := ⟨gb217, 0, none⟩) (Kd.R_types HO_199002.out BK217.out (by decide)) (fun _ hk => hk.2) (.int .i64 t203)) (fun _ hk => hk.2) (.int .i64 t204)) (fun _ hk => hk.2) (.bool t205)) (fun _ hk => hk.2) (.int .i64 t206)) (fun _ hk => hk.2) (.int .i64 t207)) (fun _ hk => hk.2) (.int .i64 t208)) (fun _ hk => hk.2) (.bool t209)) (fun _ hk => hk.2) (.int .i64 t210)) (fun _ hk => hk.2) (.int .i64 t211)) (fun _ hk => trivial))⟩, ⟨Sq.F BK160.out⟩, ⟨Sq.F BK171.out⟩, ⟨Sq.F BK175.out⟩, ⟨Sq.F BK198.out⟩, ⟨Sq.B BK217.out⟩, ⟨Sq.w HB.out⟩⟩
                 rw [if_neg c205] at H
                 have c205b0 : (t207 == 4) = false := beq_eq_false_iff_ne.mpr c205
                 have c205b1 : (t207 != 4) = true := bne_iff_ne.mpr c205
                 have H' := Aside0.mk H
                 clear H; have b215 := NB171_160.out; have d215 := NB160_171.out; have b216 := NB171_175.out; have d216 := NB175_171.out; have b217 := NB171_198.out; have d217 := NB198_171.out; have b218 := NB171_217.out; have d218 := NB217_171.out
                 obtain ⟨z219_0, z219_1, z219_2, z219_3, z219_4, z219_5, z219_6, z219_7, z219_8⟩ := Sq.c9 BK171.out
                 obtain ⟨y219_0, y219_1, y219_2, y219_3, y219_4, y219_5, y219_6, y219_7, y219_8⟩ := Sq.f9 BK171.out
                 have b220 := NB217_160.out; have d220 := NB160_217.out; have b221 := NB217_175.out; have d221 := NB175_217.out; have b222 := NB217_198.out; have d222 := NB198_217.out
                 obtain ⟨z223_0, z223_1, z223_2, z223_3, z223_4, z223_5, z223_6, z223_7, z223_8⟩ := Sq.c9 BK217.out
                 obtain ⟨y223_0, y223_1, y223_2, y223_3, y223_4, y223_5, y223_6, y223_7, y223_8⟩ := Sq.f9 BK217.out
                 go_wp2
                 refine Cu.meet (by assumption) ?_ (by kernel_rfl) (by kernel_rfl)
                 try dsimp only [Cu.pick, Cu.nth]
                 exact ⟨_, (0), (true), Sq.e, Sq.e, H', ⟨by have := HK1.out; have := HJ9.out; have := HJ26.out; have := HJ84.out; have := HJ108.out; first | omega | exact Nat.le_refl _⟩, ⟨Sq.rR (Kd.R_mono (Kd.R_far (p := ⟨gb217, 8, none⟩) (Kd.R_far (p := ⟨gb217, 7, none⟩) (Kd.R_far (p := ⟨gb217, 6, none⟩) (Kd.R_far (p := ⟨gb217, 5, none⟩) (Kd.R_far (p := ⟨gb217, 4, none⟩) (Kd.R_far (p := ⟨gb217, 3, none⟩) (Kd.R_far (p := ⟨gb217, 2, none⟩) (Kd.R_far (p := ⟨gb217, 1, none⟩) (Kd.R_far (p := ⟨gb217, 0, none⟩) (Kd.R_types HO_199002.out BK217.out (by decide)) (fun _ hk => hk.2) (.int .i64 t203)) (fun _ hk => hk.2) (.int .i64 t204)) (fun _ hk => hk.2) (.bool t205)) (fun _ hk => hk.2) (.int .i64 t206)) (fun _ hk => hk.2) (.int .i64 t207)) (fun _ hk => hk.2) (.int .i64 t208)) (fun _ hk => hk.2) (.bool t209)) (fun _ hk => hk.2) (.int .i64 t210)) (fun _ hk => hk.2) (.int .i64 t211)) (fun _ hk => trivial))⟩, ⟨Sq.F BK160.out⟩, ⟨Sq.F BK171.out⟩, ⟨Sq.F BK175.out⟩, ⟨Sq.F BK198.out⟩, ⟨Sq.B BK217.out⟩, ⟨Sq.w HB.out⟩⟩
                rw [if_neg c204] at H
                have c204b0 : (x172004_26 == 3) = false := beq_eq_false_iff_ne.mpr c204
                have c204b1 : (x172004_26 != 3) = true := bne_iff_ne.mpr c204
                have H' := Aside0.mk H
                clear H; have b224 := NB171_160.out; have d224 := NB160_171.out; have b225 := NB171_175.out; have d225 := NB175_171.out; have b226 := NB171_198.out; have d226 := NB198_171.out; have b227 := NB171_217.out; have d227 := NB217_171.out
                obtain ⟨z228_0, z228_1, z228_2, z228_3, z228_4, z228_5, z228_6, z228_7, z228_8⟩ := Sq.c9 BK171.out
                obtain ⟨y228_0, y228_1, y228_2, y228_3, y228_4, y228_5, y228_6, y228_7, y228_8⟩ := Sq.f9 BK171.out
                have b229 := NB217_160.out; have d229 := NB160_217.out; have b230 := NB217_175.out; have d230 := NB175_217.out; have b231 := NB217_198.out; have d231 := NB198_217.out
                obtain ⟨z232_0, z232_1, z232_2, z232_3, z232_4, z232_5, z232_6, z232_7, z232_8⟩ := Sq.c9 BK217.out
                obtain ⟨y232_0, y232_1, y232_2, y232_3, y232_4, y232_5, y232_6, y232_7, y232_8⟩ := Sq.f9 BK217.out
                go_wp2
                refine Cu.meet (by assumption) ?_ (by kernel_rfl) (by kernel_rfl)
                try dsimp only [Cu.pick, Cu.nth]
                exact ⟨_, (0), (true), Sq.e, Sq.e, H', ⟨by have := HK1.out; have := HJ9.out; have := HJ26.out; have := HJ84.out; have := HJ108.out; first | omega | exact Nat.le_refl _⟩, ⟨Sq.rR (Kd.R_mono (Kd.R_far (p := ⟨gb217, 8, none⟩) (Kd.R_far (p := ⟨gb217, 7, none⟩) (Kd.R_far (p := ⟨gb217, 6, none⟩) (Kd.R_far (p := ⟨gb217, 5, none⟩) (Kd.R_far (p := ⟨gb217, 4, none⟩) (Kd.R_far (p := ⟨gb217, 3, none⟩) (Kd.R_far (p := ⟨gb217, 2, none⟩) (Kd.R_far (p := ⟨gb217, 1, none⟩) (Kd.R_far (p := ⟨gb217, 0, none⟩) (Kd.R_types HO_199002.out BK217.out (by decide)) (fun _ hk => hk.2) (.int .i64 t203)) (fun _ hk => hk.2) (.int .i64 t204)) (fun _ hk => hk.2) (.bool t205)) (fun _ hk => hk.2) (.int .i64 t206)) (fun _ hk => hk.2) (.int .i64 t207)) (fun _ hk => hk.2) (.int .i64 t208)) (fun _ hk => hk.2) (.bool t209)) (fun _ hk => hk.2) (.int .i64 t210)) (fun _ hk => hk.2) (.int .i64 t211)) (fun _ hk => trivial))⟩, ⟨Sq.F BK160.out⟩, ⟨Sq.F BK171.out⟩, ⟨Sq.F BK175.out⟩, ⟨Sq.F BK198.out⟩, ⟨Sq.B BK217.out⟩, ⟨Sq.w HB.out⟩⟩
               rw [if_neg c193] at H
               have c193b0 : (x172004_26 == 7) = false := beq_eq_false_iff_ne.mpr c193
               have c193b1 : (x172004_26 != 7) = true := bne_iff_ne.mpr c193
               (first | rw [c193b0] | (simp only [i64_w, i32_w]; rw [c193b0]) | skip)
               by_cases c233 : t207 = 0
               ·rw [if_pos c233] at H
                have c233b0 : (t207 == 0) = true := beq_iff_eq.mpr c233
                have c233b1 : (t207 != 0) = false := bne_eq_false_iff_eq.mpr c233
                clear c233
                have H' := Aside0.mk H
                clear H; have b234 := NB171_160.out; have d234 := NB160_171.out; have b235 := NB171_175.out; have d235 := NB175_171.out; have b236 := NB171_198.out; have d236 := NB198_171.out; have b237 := NB171_217.out; have d237 := NB217_171.out
                obtain ⟨z238_0, z238_1, z238_2, z238_3, z238_4, z238_5, z238_6, z238_7, z238_8⟩ := Sq.c9 BK171.out
                obtain ⟨y238_0, y238_1, y238_2, y238_3, y238_4, y238_5, y238_6, y238_7, y238_8⟩ := Sq.f9 BK171.out
                have b239 := NB217_160.out; have d239 := NB160_217.out; have b240 := NB217_175.out; have d240 := NB175_217.out; have b241 := NB217_198.out; have d241 := NB198_217.out
                obtain ⟨z242_0, z242_1, z242_2, z242_3, z242_4, z242_5, z242_6, z242_7, z242_8⟩ := Sq.c9 BK217.out
                obtain ⟨y242_0, y242_1, y242_2, y242_3, y242_4, y242_5, y242_6, y242_7, y242_8⟩ := Sq.f9 BK217.out
                go_wp2
                refine Cu.meet (by assumption) ?_ (by kernel_rfl) (by kernel_rfl)
                try dsimp only [Cu.pick, Cu.nth]
                exact ⟨_, (0), (false), Sq.e, Sq.e, H', ⟨by have := HK1.out; have := HJ9.out; have := HJ26.out; have := HJ84.out; have := HJ108.out; first | omega | exact Nat.le_refl _⟩, ⟨Sq.rR (Kd.R_mono (Kd.R_far (p := ⟨gb217, 8, none⟩) (Kd.R_far (p := ⟨gb217, 7, none⟩) (Kd.R_far (p := ⟨gb217, 6, none⟩) (Kd.R_far (p := ⟨gb217, 5, none⟩) (Kd.R_far (p := ⟨gb217, 4, none⟩) (Kd.R_far (p := ⟨gb217, 3, none⟩) (Kd.R_far (p := ⟨gb217, 2, none⟩) (Kd.R_far (p := ⟨gb217, 1, none⟩) (Kd.R_far (p := ⟨gb217, 0, none⟩) (Kd.R_types HO_199002.out BK217.out (by decide)) (fun _ hk => hk.2) (.int .i64 t203)) (fun _ hk => hk.2) (.int .i64 t204)) (fun _ hk => hk.2) (.bool t205)) (fun _ hk => hk.2) (.int .i64 t206)) (fun _ hk => hk.2) (.int .i64 t207)) (fun _ hk => hk.2) (.int .i64 t208)) (fun _ hk => hk.2) (.bool t209)) (fun _ hk => hk.2) (.int .i64 t210)) (fun _ hk => hk.2) (.int .i64 t211)) (fun _ hk => trivial))⟩, ⟨Sq.F BK160.out⟩, ⟨Sq.F BK171.out⟩, ⟨Sq.F BK175.out⟩, ⟨Sq.F BK198.out⟩, ⟨Sq.B BK217.out⟩, ⟨Sq.w HB.out⟩⟩
               rw [if_neg c233] at H
               have c233b0 : (t207 == 0) = false := beq_eq_false_iff_ne.mpr c233
               have c233b1 : (t207 != 0) = true := bne_iff_ne.mpr c233
               by_cases c243 : x172004_26 = 3
               ·rw [if_pos c243] at H
                have c243b0 : (x172004_26 == 3) = true := beq_iff_eq.mpr c243
                have c243b1 : (x172004_26 != 3) = false := bne_eq_false_iff_eq.mpr c243
                clear c243
                by_cases c244 : t207 = 4
                ·rw [if_pos c244] at H
                 have c244b0 : (t207 == 4) = true := beq_iff_eq.mpr c244
                 have c244b1 : (t207 != 4) = false := bne_eq_false_iff_eq.mpr c244
                 clear c244
                 have H' := Aside0.mk H
                 clear H; have b245 := NB171_160.out; have d245 := NB160_171.out; have b246 := NB171_175.out; have d246 := NB175_171.out; have b247 := NB171_198.out; have d247 := NB198_171.out; have b248 := NB171_217.out; have d248 := NB217_171.out
                 obtain ⟨z249_0, z249_1, z249_2, z249_3, z249_4, z249_5, z249_6, z249_7, z249_8⟩ := Sq.c9 BK171.out
                 obtain ⟨y249_0, y249_1, y249_2, y249_3, y249_4, y249_5, y249_6, y249_7, y249_8⟩ := Sq.f9 BK171.out
                 have b250 := NB217_160.out; have d250 := NB160_217.out; have b251 := NB217_175.out; have d251 := NB175_217.out; have b252 := NB217_198.out; have d252 := NB198_217.out
                 obtain ⟨z253_0, z253_1, z253_2, z253_3, z253_4, z253_5, z253_6, z253_7, z253_8⟩ := Sq.c9 BK217.out
                 obtain ⟨y253_0, y253_1, y253_2, y253_3, y253_4, y253_5, y253_6, y253_7, y253_8⟩ := Sq.f9 BK217.out
                 go_wp2
                 refine Cu.meet (by assumption) ?_ (by kernel_rfl) (by kernel_rfl)
                 try dsimp only [Cu.pick, Cu.nth]
                 exact ⟨_, (0), (false), Sq.e, Sq.e, H', ⟨by have := HK1.out; have := HJ9.out; have := HJ26.out; have := HJ84.out; have := HJ108.out; first | omega | exact Nat.le_refl _⟩, ⟨Sq.rR (Kd.R_mono (Kd.R_far (p := ⟨gb217, 8, none⟩) (Kd.R_far (p := ⟨gb217, 7, none⟩) (Kd.R_far (p := ⟨gb217, 6, none⟩) (Kd.R_far (p := ⟨gb217, 5, none⟩) (Kd.R_far (p := ⟨gb217, 4, none⟩) (Kd.R_far (p := ⟨gb217, 3, none⟩) (Kd.R_far (p := ⟨gb217, 2, none⟩) (Kd.R_far (p := ⟨gb217, 1, none⟩) (Kd.R_far (p := ⟨gb217, 0, none⟩) (Kd.R_types HO_199002.out BK217.out (by decide)) (fun _ hk => hk.2) (.int .i64 t203)) (fun _ hk => hk.2) (.int .i64 t204)) (fun _ hk => hk.2) (.bool t205)) (fun _ hk => hk.2) (.int .i64 t206)) (fun _ hk => hk.2) (.int .i64 t207)) (fun _ hk => hk.2) (.int .i64 t208)) (fun _ hk => hk.2) (.bool t209)) (fun _ hk => hk.2) (.int .i64 t210)) (fun _ hk => hk.2) (.int .i64 t211)) (fun _ hk => trivial))⟩, ⟨Sq.F BK160.out⟩, ⟨Sq.F BK171.out⟩, ⟨Sq.F BK175.out⟩, ⟨Sq.F BK198.out⟩, ⟨Sq.B BK217.out⟩, ⟨Sq.w HB.out⟩⟩
                rw [if_neg c244] at H
                have c244b0 : (t207 == 4) = false := beq_eq_false_iff_ne.mpr c244
                have c244b1 : (t207 != 4) = true := bne_iff_ne.mpr c244
                have H' := Aside0.mk H
                clear H; have b254 := NB171_160.out; have d254 := NB160_171.out; have b255 := NB171_175.out; have d255 := NB175_171.out; have b256 := NB171_198.out; have d256 := NB198_171.out; have b257 := NB171_217.out; have d257 := NB217_171.out
                obtain ⟨z258_0, z258_1, z258_2, z258_3, z258_4, z258_5, z258_6, z258_7, z258_8⟩ := Sq.c9 BK171.out
                obtain ⟨y258_0, y258_1, y258_2, y258_3, y258_4, y258_5, y258_6, y258_7, y258_8⟩ := Sq.f9 BK171.out
                have b259 := NB217_160.out; have d259 := NB160_217.out; have b260 := NB217_175.out; have d260 := NB175_217.out; have b261 := NB217_198.out; have d261 := NB198_217.out
                obtain ⟨z262_0, z262_1, z262_2, z262_3, z262_4, z262_5, z262_6, z262_7, z262_8⟩ := Sq.c9 BK217.out
                obtain ⟨y262_0, y262_1, y262_2, y262_3, y262_4, y262_5, y262_6, y262_7, y262_8⟩ := Sq.f9 BK217.out
                go_wp2
                refine Cu.meet (by assumption) ?_ (by kernel_rfl) (by kernel_rfl)
                try dsimp only [Cu.pick, Cu.nth]
                exact ⟨_, (0), (x6_1), Sq.e, Sq.e, H', ⟨by have := HK1.out; have := HJ9.out; have := HJ26.out; have := HJ84.out; have := HJ108.out; first | omega | exact Nat.le_refl _⟩, ⟨Sq.rR (Kd.R_mono (Kd.R_far (p := ⟨gb217, 8, none⟩) (Kd.R_far (p := ⟨gb217, 7, none⟩) (Kd.R_far (p := ⟨gb217, 6, none⟩) (Kd.R_far (p := ⟨gb217, 5, none⟩) (Kd.R_far (p := ⟨gb217, 4, none⟩) (Kd.R_far (p := ⟨gb217, 3, none⟩) (Kd.R_far (p := ⟨gb217, 2, none⟩) (Kd.R_far (p := ⟨gb217, 1, none⟩) (Kd.R_far (p := ⟨gb217, 0, none⟩) (Kd.R_types HO_199002.out BK217.out (by decide)) (fun _ hk => hk.2) (.int .i64 t203)) (fun _ hk => hk.2) (.int .i64 t204)) (fun _ hk => hk.2) (.bool t205)) (fun _ hk => hk.2) (.int .i64 t206)) (fun _ hk => hk.2) (.int .i64 t207)) (fun _ hk => hk.2) (.int .i64 t208)) (fun _ hk => hk.2) (.bool t209)) (fun _ hk => hk.2) (.int .i64 t210)) (fun _ hk => hk.2) (.int .i64 t211)) (fun _ hk => trivial))⟩, ⟨Sq.F BK160.out⟩, ⟨Sq.F BK171.out⟩, ⟨Sq.F BK175.out⟩, ⟨Sq.F BK198.out⟩, ⟨Sq.B BK217.out⟩, ⟨Sq.w HB.out⟩⟩
               rw [if_neg c243] at H
               have c243b0 : (x172004_26 == 3) = false := beq_eq_false_iff_ne.mpr c243
               have c243b1 : (x172004_26 != 3) = true := bne_iff_ne.mpr c243
               have H' := Aside0.mk H
               clear H; have b263 := NB171_160.out; have d263 := NB160_171.out; have b264 := NB171_175.out; have d264 := NB175_171.out; have b265 := NB171_198.out; have d265 := NB198_171.out; have b266 := NB171_217.out; have d266 := NB217_171.out
               obtain ⟨z267_0, z267_1, z267_2, z267_3, z267_4, z267_5, z267_6, z267_7, z267_8⟩ := Sq.c9 BK171.out
               obtain ⟨y267_0, y267_1, y267_2, y267_3, y267_4, y267_5, y267_6, y267_7, y267_8⟩ := Sq.f9 BK171.out
               have b268 := NB217_160.out; have d268 := NB160_217.out; have b269 := NB217_175.out; have d269 := NB175_217.out; have b270 := NB217_198.out; have d270 := NB198_217.out
               obtain ⟨z271_0, z271_1, z271_2, z271_3, z271_4, z271_5, z271_6, z271_7, z271_8⟩ := Sq.c9 BK217.out
               obtain ⟨y271_0, y271_1, y271_2, y271_3, y271_4, y271_5, y271_6, y271_7, y271_8⟩ := Sq.f9 BK217.out
               go_wp2
               refine Cu.meet (by assumption) ?_ (by kernel_rfl) (by kernel_rfl)
               try dsimp only [Cu.pick, Cu.nth]
               exact ⟨_, (0), (x6_1), Sq.e, Sq.e, H', ⟨by have := HK1.out; have := HJ9.out; have := HJ26.out; have := HJ84.out; have := HJ108.out; first | omega | exact Nat.le_refl _⟩, ⟨Sq.rR (Kd.R_mono (Kd.R_far (p := ⟨gb217, 8, none⟩) (Kd.R_far (p := ⟨gb217, 7, none⟩) (Kd.R_far (p := ⟨gb217, 6, none⟩) (Kd.R_far (p := ⟨gb217, 5, none⟩) (Kd.R_far (p := ⟨gb217, 4, none⟩) (Kd.R_far (p := ⟨gb217, 3, none⟩) (Kd.R_far (p := ⟨gb217, 2, none⟩) (Kd.R_far (p := ⟨gb217, 1, none⟩) (Kd.R_far (p := ⟨gb217, 0, none⟩) (Kd.R_types HO_199002.out BK217.out (by decide)) (fun _ hk => hk.2) (.int .i64 t203)) (fun _ hk => hk.2) (.int .i64 t204)) (fun _ hk => hk.2) (.bool t205)) (fun _ hk => hk.2) (.int .i64 t206)) (fun _ hk => hk.2) (.int .i64 t207)) (fun _ hk => hk.2) (.int .i64 t208)) (fun _ hk => hk.2) (.bool t209)) (fun _ hk => hk.2) (.int .i64 t210)) (fun _ hk => hk.2) (.int .i64 t211)) (fun _ hk => trivial))⟩, ⟨Sq.F BK160.out⟩, ⟨Sq.F BK171.out⟩, ⟨Sq.F BK175.out⟩, ⟨Sq.F BK198.out⟩, ⟨Sq.B BK217.out⟩, ⟨Sq.w HB.out⟩⟩
              replace c192 := Bool.eq_false_iff.mpr c192
              subst c192
              have H1 : (gimballaw9_DrvFails.j5 kj108 (wrap64 (x5_26 + 1)) x6_1 x7_1 false t215 l0_0 x172000_26 x172001_26 x172002_26 x172003_26 x172004_26 x172005_26 x172006_26 x172007_26 x172008_26 t203 t204 t205 t206 t207 t208 t209 t210 t211) = some r := by rw [if_neg (show ¬ (false = true) by decide)] at H; exact H
              clear H
              have H := H1
              clear H1
              have H' := Aside0.mk H
              clear H
              go_wp2
              refine Cu.meet (by assumption) ?_ (by kernel_rfl) (by kernel_rfl)
              try dsimp only [Cu.pick, Cu.nth]
              exact ⟨_, (wrap64 (x5_26 + 1)), (x6_1), Sq.e, Sq.e, H', ⟨by have := HK1.out; have := HJ9.out; have := HJ26.out; have := HJ84.out; have := HJ108.out; first | omega | exact Nat.le_refl _⟩, ⟨Sq.rR (Kd.R_mono (Kd.R_far (p := ⟨gb217, 8, none⟩) (Kd.R_far (p := ⟨gb217, 7, none⟩) (Kd.R_far (p := ⟨gb217, 6, none⟩) (Kd.R_far (p := ⟨gb217, 5, none⟩) (Kd.R_far (p := ⟨gb217, 4, none⟩) (Kd.R_far (p := ⟨gb217, 3, none⟩) (Kd.R_far (p := ⟨gb217, 2, none⟩) (Kd.R_far (p := ⟨gb217, 1, none⟩) (Kd.R_far (p := ⟨gb217, 0, none⟩) (Kd.R_types HO_199002.out BK217.out (by decide)) (fun _ hk => hk.2) (.int .i64 t203)) (fun _ hk => hk.2) (.int .i64 t204)) (fun _ hk => hk.2) (.bool t205)) (fun _ hk => hk.2) (.int .i64 t206)) (fun _ hk => hk.2) (.int .i64 t207)) (fun _ hk => hk.2) (.int .i64 t208)) (fun _ hk => hk.2) (.bool t209)) (fun _ hk => hk.2) (.int .i64 t210)) (fun _ hk => hk.2) (.int .i64 t211)) (fun _ hk => trivial))⟩, ⟨Sq.F BK160.out⟩, ⟨Sq.F BK171.out⟩, ⟨Sq.F BK175.out⟩, ⟨Sq.F BK198.out⟩, ⟨Sq.B BK217.out⟩, ⟨Sq.w HB.out⟩⟩
             ·
              intro wc u5 u6 u27 u28 u29 u30 u31 u32 u33 u34 u35 u36 u37 u38 u39 u40 u41 u42 u43 u44 u45 u46 u47 u48 u49 u50 u51 u52 u53 u54 u55 u56 u57 u58 u59 u60 u61 u62 u63 u64 u65 u66 u67 u68 u69 u70 u71 u72 u73 u74 u75 u76 u77 u78 u79 u80 u81 u82 u83 u84 u85 u86 u87 u88 u89 u90 u91 u92 u93 u94 u95 u96 u97 u98 u99 u100 u101 u102 u103 u104 u105 u106 u107 u108 u109 u110 u111 u112 u113 u114 u115 u116 u117 u118 u119 u120 u121 u122 u123 u124 u125 u126 u127 u128 u129 u130 u131 u132 u133 u134 u135 u136 u137 u138 u139 u140 u141 u142 u143 u144 u145 u146 u147 u148 u149 u150 u151 u152 u153 u154 u155 u156 u157 u158 u159 u160 u161 u162 u163 u164 u165 u166 u167 u168 u169 u170 u171 u172 u173 u174 u175 u176 u177 u178 u179 u180 u181 u182 u183 u184 u185 u186 u187 u188 u189 u190 u191 u192 u193 u194 u195 u196 u197 u198 u199 u200 u201 u202
              try dsimp only [Cu.over, Cu.nth]
              intro hcut
              clear HC177; (try clear c176b0); (try clear c176b1); (try clear z181_0 z181_1 z181_2 z181_3 z181_4 z181_5 z181_6 z181_7 z181_8); (try clear z184_0 z184_1 z184_10 z184_11 z184_12 z184_2 z184_3 z184_4 z184_5 z184_6 z184_7 z184_8 z184_9); (try clear z191_0 z191_1 z191_2 z191_3 z191_4 z191_5 z191_6 z191_7 z191_8); (try clear y181_0 y181_1 y181_2 y181_3 y181_4 y181_5 y181_6 y181_7 y181_8); (try clear y184_0 y184_1 y184_10 y184_11 y184_12 y184_2 y184_3 y184_4 y184_5 y184_6 y184_7 y184_8 y184_9); (try clear y191_0 y191_1 y191_2 y191_3 y191_4 y191_5 y191_6 y191_7 y191_8)
              obtain ⟨kq, x5_176, x6_176, rfl, rfl, HA, HJ176, HO_199002, BK160, BK171, BK175, BK198, BK217, HB⟩ := hcut
              cases kq with
              | zero => exact absurd HA.out (by simp [gimballaw9_DrvFails.j5])
              | succ kj176 =>
               have H := HA.out
               clear HA
               simp only [gimballaw9_DrvFails.j5] at H
               have HC272 := Aside0.mk H
               clear H
               go_upto_region 35 with (fail)
               refine Cu.wp_cut (Cu.f :: Cu.f :: Cu.f :: Cu.f :: Cu.f :: Cu.f :: Cu.f :: Cu.f :: Cu.f :: Cu.f :: Cu.f :: Cu.f :: Cu.f :: Cu.f :: Cu.f :: Cu.f :: Cu.f :: Cu.f :: Cu.f :: Cu.f :: Cu.f :: Cu.f :: Cu.f :: Cu.f :: Cu.f :: Cu.f :: Cu.f :: Cu.t :: Cu.t :: Cu.t :: Cu.t :: Cu.t :: Cu.t :: Cu.t :: Cu.t :: Cu.t :: Cu.t :: Cu.t :: Cu.t :: Cu.t :: Cu.t :: Cu.t :: Cu.t :: Cu.t :: Cu.t :: Cu.t :: Cu.t :: Cu.t :: Cu.t :: Cu.t :: Cu.t :: Cu.t :: Cu.t :: Cu.t :: Cu.t :: Cu.t :: Cu.t :: Cu.t :: Cu.t :: Cu.t :: Cu.t :: Cu.t :: Cu.t :: Cu.t :: Cu.t :: Cu.t :: Cu.t :: Cu.t :: Cu.t :: Cu.t :: Cu.t :: Cu.t :: Cu.t :: Cu.t :: Cu.t :: Cu.t :: Cu.t :: Cu.t :: Cu.t :: Cu.t :: Cu.t :: Cu.t :: Cu.t :: Cu.t :: Cu.t :: Cu.t :: Cu.t :: Cu.t :: Cu.t :: Cu.t :: Cu.t :: Cu.t :: Cu.t :: Cu.t :: Cu.t :: Cu.t :: Cu.t :: Cu.t :: Cu.t :: Cu.t :: Cu.t :: Cu.t :: Cu.t :: Cu.t :: Cu.t :: Cu.t :: Cu.t :: Cu.t :: Cu.t :: Cu.t :: Cu.t :: Cu.t :: Cu.t :: Cu.t :: Cu.t :: Cu.t :: Cu.t :: Cu.t :: Cu.t :: Cu.t :: Cu.t :: Cu.t :: Cu.t :: Cu.t :: Cu.t :: Cu.t :: Cu.t :: Cu.t :: Cu.t :: Cu.t :: Cu.t :: Cu.t :: Cu.t :: Cu.t :: Cu.t :: Cu.t :: Cu.t :: Cu.t :: Cu.t :: Cu.t :: Cu.t :: Cu.t :: Cu.t :: Cu.t :: Cu.t :: Cu.t :: Cu.t :: Cu.t :: Cu.t :: Cu.f :: Cu.t :: Cu.t :: Cu.t :: Cu.t :: Cu.t :: Cu.t :: Cu.t :: Cu.t :: Cu.t :: Cu.t :: Cu.t :: Cu.t :: Cu.t :: Cu.t :: Cu.t :: Cu.t :: Cu.t :: Cu.t :: Cu.t :: Cu.t :: Cu.t :: Cu.t :: Cu.t :: Cu.t :: Cu.t :: Cu.t :: Cu.t :: Cu.t :: Cu.t :: Cu.t :: Cu.t :: Cu.t :: Cu.t :: Cu.t :: Cu.t :: Cu.t :: Cu.t :: Cu.t :: Cu.t :: Cu.t :: Cu.t :: Cu.t :: Cu.t :: Cu.t :: Cu.t :: Cu.t :: Cu.t :: Cu.t :: Cu.t :: Cu.t :: Cu.t :: Cu.t :: Cu.t :: Cu.f :: []) 175 (fun us_ wc => ∃ (kq : Nat) (x190_271 : Bool), (Cu.nth us_ 162) = .bool x190_271 ∧ Aside0 (gimballaw9_DrvFails.j6 kq x5_176 x6_176 x7_1 x15_108 x190_271 l0_0 x172000_26 x172001_26 x172002_26 x172003_26 x172004_26 x172005_26 x172006_26 x172007_26 x172008_26 t203 t204 t205 t206 t207 t208 t209 t210 t211 = some r) ∧ Aside0 (kq ≤ kj176) ∧ Aside0 (Kd.R (Kd.int .u8) 5 wc w.heap.size (fun _ => True) (.slice Ao95 t192.length co95) t192) ∧ Aside0 (wc.heap[gb160]? = some (.cells #[(.slice (some ad174) l0_0.length c0_0)] 44 (0, 0))) ∧ Aside0 (wc.heap[gb171]? = some (.cells #[.int .i64 x172000_26, .int .i64 x172001_26, .bool x172002_26, .int .i64 x172003_26, .int .i64 x172004_26, .int .i64 x172005_26, .bool x172006_26, .int .i64 x172007_26, .int .i64 x172008_26] 24 (0, 0))) ∧ Aside0 (wc.heap[gb175]? = some (.cells #[.int .i64 ((rd_T29 l0_0 x7_1).f0.f0), .int .i64 ((rd_T29 l0_0 x7_1).f0.f1), .bool ((rd_T29 l0_0 x7_1).f0.f2), .int .i64 ((rd_T29 l0_0 x7_1).f0.f3), .int .i64 ((rd_T29 l0_0 x7_1).f0.f4), .int .i64 ((rd_T29 l0_0 x7_1).f0.f5), .bool ((rd_T29 l0_0 x7_1).f0.f6), .int .i64 ((rd_T29 l0_0 x7_1).f0.f7), .int .i64 ((rd_T29 l0_0 x7_1).f0.f8), .bool ((rd_T29 l0_0 x7_1).f1), .int .i64 ((rd_T29 l0_0 x7_1).f2), .int .i64 ((rd_T29 l0_0 x7_1).f3.f0), (.slice A174_12 ((rd_T29 l0_0 x7_1).f3.f1).length c174_12)] 29 (0, 0))) ∧ Aside0 (wc.heap[gb198]? = some (.cells #[.int .i64 t190, .int .i64 t191, (.slice Ao95 t192.length co95), .int .i64 t195] 31 (0, 0))) ∧ Aside0 (wc.heap[gb217]? = some (.cells #[.int .i64 t203, .int .i64 t204, .bool t205, .int .i64 t206, .int .i64 t207, .int .i64 t208, .bool t209, .int .i64 t210, .int .i64 t211] 24 (0, 0))) ∧ Aside0 (Below w.heap.size w wc)) ?_ ?_
               ·
                intro _ _ _ _
                have H := HC272.out
                clear HC272
                by_cases c273 : (t215 != (t207 == 8)) = true
                ·rw [if_pos c273] at H
                 have c273b0 : (t215 != (t207 == 8)) = true := c273
                 (try (have c273b1 : decide (t215 = (t207 == 8)) = false := by simpa using c273))
                 (try (have c273b2 : (t215 == (t207 == 8)) = false := by simpa using c273))
                 (try (have c273b3 : ¬ (t215 = (t207 == 8)) := by simpa using c273))
                 clear c273
                 (first | rw [c273b0] | (simp only [i64_w, i32_w]; rw [c273b0]) | skip)
                 have H' := Aside0.mk H
                 clear H; have b274 := NB217_160.out; have d274 := NB160_217.out; have b275 := NB217_171.out; have d275 := NB171_217.out; have b276 := NB217_175.out; have d276 := NB175_217.out; have b277 := NB217_198.out; have d277 := NB198_217.out
                 obtain ⟨z278_0, z278_1, z278_2, z278_3, z278_4, z278_5, z278_6, z278_7, z278_8⟩ := Sq.c9 BK217.out
                 obtain ⟨y278_0, y278_1, y278_2, y278_3, y278_4, y278_5, y278_6, y278_7, y278_8⟩ := Sq.f9 BK217.out
                 go_wp2
                 refine Cu.meet (by assumption) ?_ (by kernel_rfl) (by kernel_rfl)
                 try dsimp only [Cu.pick, Cu.nth]
                 exact ⟨_, (true), Sq.e, H', ⟨by have := HK1.out; have := HJ9.out; have := HJ26.out; have := HJ84.out; have := HJ108.out; have := HJ176.out; first | omega | exact Nat.le_refl _⟩, ⟨Sq.rR HO_199002.out⟩, ⟨Sq.b BK160.out⟩, ⟨Sq.b BK171.out⟩, ⟨Sq.b BK175.out⟩, ⟨Sq.b BK198.out⟩, ⟨Sq.b BK217.out⟩, ⟨Sq.w HB.out⟩⟩
                rw [if_neg c273] at H
                have c273b0 : (t215 != (t207 == 8)) = false := by simpa using c273
                (try (have c273b1 : decide (t215 = (t207 == 8)) = true := by simpa using c273))
                (try (have c273b2 : (t215 == (t207 == 8)) = true := by simpa using c273))
                clear c273
                (first | rw [c273b0] | (simp only [i64_w, i32_w]; rw [c273b0]) | skip)
                by_cases c279 : t215 = true
                ·subst c279
                 have H1 : (if x15_108 = true then (gimballaw9_DrvFails.j6 kj176 x5_176 x6_176 x7_1 x15_108 true l0_0 x172000_26 x172001_26 x172002_26 x172003_26 x172004_26 x172005_26 x172006_26 x172007_26 x172008_26 t203 t204 t205 t206 t207 t208 t209 t210 t211) else (if x172004_26 = 7 then (gimballaw9_DrvFails.j6 kj176 x5_176 x6_176 x7_1 x15_108 false l0_0 x172000_26 x172001_26 x172002_26 x172003_26 x172004_26 x172005_26 x172006_26 x172007_26 x172008_26 t203 t204 t205 t206 t207 t208 t209 t210 t211) else (if x5_176 < 3 then (gimballaw9_DrvFails.j6 kj176 x5_176 x6_176 x7_1 x15_108 true l0_0 x172000_26 x172001_26 x172002_26 x172003_26 x172004_26 x172005_26 x172006_26 x172007_26 x172008_26 t203 t204 t205 t206 t207 t208 t209 t210 t211) else (gimballaw9_DrvFails.j6 kj176 x5_176 x6_176 x7_1 x15_108 (!x6_176) l0_0 x172000_26 x172001_26 x172002_26 x172003_26 x172004_26 x172005_26 x172006_26 x172007_26 x172008_26 t203 t204 t205 t206 t207 t208 t209 t210 t211)))) = some r := by rw [if_pos rfl] at H; exact H
                 clear H
                 have H := H1
                 clear H1
                 by_cases c280 : x15_108 = true
                 ·subst c280
                  have H1 : (gimballaw9_DrvFails.j6 kj176 x5_176 x6_176 x7_1 true true l0_0 x172000_26 x172001_26 x172002_26 x172003_26 x172004_26 x172005_26 x172006_26 x172007_26 x172008_26 t203 t204 t205 t206 t207 t208 t209 t210 t211) = some r := by rw [if_pos rfl] at H; exact H
                  clear H
                  have H := H1
                  clear H1
                  have H' := Aside0.mk H
                  clear H; have b281 := NB217_160.out; have d281 := NB160_217.out; have b282 := NB217_171.out; have d282 := NB171_217.out; have b283 := NB217_175.out; have d283 := NB175_217.out; have b284 := NB217_198.out; have d284 := NB198_217.out
                  obtain ⟨z285_0, z285_1, z285_2, z285_3, z285_4, z285_5, z285_6, z285_7, z285_8⟩ := Sq.c9 BK217.out
                  obtain ⟨y285_0, y285_1, y285_2, y285_3, y285_4, y285_5, y285_6, y285_7, y285_8⟩ := Sq.f9 BK217.out
                  go_wp2
                  refine Cu.meet (by assumption) ?_ (by kernel_rfl) (by kernel_rfl)
                  try dsimp only [Cu.pick, Cu.nth]
                  exact ⟨_, (true), Sq.e, H', ⟨by have := HK1.out; have := HJ9.out; have := HJ26.out; have := HJ84.out; have := HJ108.out; have := HJ176.out; first | omega | exact Nat.le_refl _⟩, ⟨Sq.rR HO_199002.out⟩, ⟨Sq.b BK160.out⟩, ⟨Sq.b BK171.out⟩, ⟨Sq.b BK175.out⟩, ⟨Sq.b BK198.out⟩, ⟨Sq.b BK217.out⟩, ⟨Sq.w HB.out⟩⟩
                 replace c280 := Bool.eq_false_iff.mpr c280
                 subst c280
                 have H1 : (if x172004_26 = 7 then (gimballaw9_DrvFails.j6 kj176 x5_176 x6_176 x7_1 false false l0_0 x172000_26 x172001_26 x172002_26 x172003_26 x172004_26 x172005_26 x172006_26 x172007_26 x172008_26 t203 t204 t205 t206 t207 t208 t209 t210 t211) else (if x5_176 < 3 then (gimballaw9_DrvFails.j6 kj176 x5_176 x6_176 x7_1 false true l0_0 x172000_26 x172001_26 x172002_26 x172003_26 x172004_26 x172005_26 x172006_26 x172007_26 x172008_26 t203 t204 t205 t206 t207 t208 t209 t210 t211) else (gimballaw9_DrvFails.j6 kj176 x5_176 x6_176 x7_1 false (!x6_176) l0_0 x172000_26 x172001_26 x172002_26 x172003_26 x172004_26 x172005_26 x172006_26 x172007_26 x172008_26 t203 t204 t205 t206 t207 t208 t209 t210 t211))) = some r := by rw [if_neg (show ¬ (false = true) by decide)] at H; exact H
                 clear H
                 have H := H1
                 clear H1
                 by_cases c286 : x172004_26 = 7
                 ·rw [if_pos c286] at H
                  have c286b0 : (x172004_26 == 7) = true := beq_iff_eq.mpr c286
                  have c286b1 : (x172004_26 != 7) = false := bne_eq_false_iff_eq.mpr c286
                  clear c286
                  have H' := Aside0.mk H
                  clear H; have b287 := NB217_160.out; have d287 := NB160_217.out; have b288 := NB217_171.out; have d288 := NB171_217.out; have b289 := NB217_175.out; have d289 := NB175_217.out; have b290 := NB217_198.out; have d290 := NB198_217.out
                  obtain ⟨z291_0, z291_1, z291_2, z291_3, z291_4, z291_5, z291_6, z291_7, z291_8⟩ := Sq.c9 BK217.out
                  obtain ⟨y291_0, y291_1, y291_2, y291_3, y291_4, y291_5, y291_6, y291_7, y291_8⟩ := Sq.f9 BK217.out
                  have b292 := NB171_160.out; have d292 := NB160_171.out; have b293 := NB171_175.out; have d293 := NB175_171.out; have b294 := NB171_198.out; have d294 := NB198_171.out
                  obtain ⟨z295_0, z295_1, z295_2, z295_3, z295_4, z295_5, z295_6, z295_7, z295_8⟩ := Sq.c9 BK171.out
                  obtain ⟨y295_0, y295_1, y295_2, y295_3, y295_4, y295_5, y295_6, y295_7, y295_8⟩ := Sq.f9 BK171.out
                  go_wp2
                  refine Cu.meet (by assumption) ?_ (by kernel_rfl) (by kernel_rfl)
                  try dsimp only [Cu.pick, Cu.nth]
                  exact ⟨_, (false), Sq.e, H', ⟨by have := HK1.out; have := HJ9.out; have := HJ26.out; have := HJ84.out; have := HJ108.out; have := HJ176.out; first | omega | exact Nat.le_refl _⟩, ⟨Sq.rR HO_199002.out⟩, ⟨Sq.b BK160.out⟩, ⟨Sq.b BK171.out⟩, ⟨Sq.b BK175.out⟩, ⟨Sq.b BK198.out⟩, ⟨Sq.b BK217.out⟩, ⟨Sq.w HB.out⟩⟩
                 rw [if_neg c286] at H
                 have c286b0 : (x172004_26 == 7) = false := beq_eq_false_iff_ne.mpr c286
                 have c286b1 : (x172004_26 != 7) = true := bne_iff_ne.mpr c286
                 by_cases c296 : x5_176 < 3
                 ·rw [if_pos c296] at H
                  have c296b0 : decide (x5_176 < 3) = true := decide_eq_true c296
                  clear c296
                  have H' := Aside0.mk H
                  clear H; have b297 := NB217_160.out; have d297 := NB160_217.out; have b298 := NB217_171.out; have d298 := NB171_217.out; have b299 := NB217_175.out; have d299 := NB175_217.out; have b300 := NB217_198.out; have d300 := NB198_217.out
                  obtain ⟨z301_0, z301_1, z301_2, z301_3, z301_4, z301_5, z301_6, z301_7, z301_8⟩ := Sq.c9 BK217.out
                  obtain ⟨y301_0, y301_1, y301_2, y301_3, y301_4, y301_5, y301_6, y301_7, y301_8⟩ := Sq.f9 BK217.out
                  have b302 := NB171_160.out; have d302 := NB160_171.out; have b303 := NB171_175.out; have d303 := NB175_171.out; have b304 := NB171_198.out; have d304 := NB198_171.out
                  obtain ⟨z305_0, z305_1, z305_2, z305_3, z305_4, z305_5, z305_6, z305_7, z305_8⟩ := Sq.c9 BK171.out
                  obtain ⟨y305_0, y305_1, y305_2, y305_3, y305_4, y305_5, y305_6, y305_7, y305_8⟩ := Sq.f9 BK171.out
                  go_wp2
                  refine Cu.meet (by assumption) ?_ (by kernel_rfl) (by kernel_rfl)
                  try dsimp only [Cu.pick, Cu.nth]
                  exact ⟨_, (true), Sq.e, H', ⟨by have := HK1.out; have := HJ9.out; have := HJ26.out; have := HJ84.out; have := HJ108.out; have := HJ176.out; first | omega | exact Nat.le_refl _⟩, ⟨Sq.rR HO_199002.out⟩, ⟨Sq.b BK160.out⟩, ⟨Sq.b BK171.out⟩, ⟨Sq.b BK175.out⟩, ⟨Sq.b BK198.out⟩, ⟨Sq.b BK217.out⟩, ⟨Sq.w HB.out⟩⟩
                 rw [if_neg c296] at H
                 have c296b0 : decide (x5_176 < 3) = false := decide_eq_false c296
                 clear c296
                 have H' := Aside0.mk H
                 clear H; have b306 := NB217_160.out; have d306 := NB160_217.out; have b307 := NB217_171.out; have d307 := NB171_217.out; have b308 := NB217_175.out; have d308 := NB175_217.out; have b309 := NB217_198.out; have d309 := NB198_217.out
                 obtain ⟨z310_0, z310_1, z310_2, z310_3, z310_4, z310_5, z310_6, z310_7, z310_8⟩ := Sq.c9 BK217.out
                 obtain ⟨y310_0, y310_1, y310_2, y310_3, y310_4, y310_5, y310_6, y310_7, y310_8⟩ := Sq.f9 BK217.out
                 have b311 := NB171_160.out; have d311 := NB160_171.out; have b312 := NB171_175.out; have d312 := NB175_171.out; have b313 := NB171_198.out; have d313 := NB198_171.out
                 obtain ⟨z314_0, z314_1, z314_2, z314_3, z314_4, z314_5, z314_6, z314_7, z314_8⟩ := Sq.c9 BK171.out
                 obtain ⟨y314_0, y314_1, y314_2, y314_3, y314_4, y314_5, y314_6, y314_7, y314_8⟩ := Sq.f9 BK171.out
                 go_wp2
                 refine Cu.meet (by assumption) ?_ (by kernel_rfl) (by kernel_rfl)
                 try dsimp only [Cu.pick, Cu.nth]
                 exact ⟨_, (!x6_176), Sq.e, H', ⟨by have := HK1.out; have := HJ9.out; have := HJ26.out; have := HJ84.out; have := HJ108.out; have := HJ176.out; first | omega | exact Nat.le_refl _⟩, ⟨Sq.rR HO_199002.out⟩, ⟨Sq.b BK160.out⟩, ⟨Sq.b BK171.out⟩, ⟨Sq.b BK175.out⟩, ⟨Sq.b BK198.out⟩, ⟨Sq.b BK217.out⟩, ⟨Sq.w HB.out⟩⟩
                replace c279 := Bool.eq_false_iff.mpr c279
                subst c279
                have H1 : (gimballaw9_DrvFails.j6 kj176 x5_176 x6_176 x7_1 x15_108 false l0_0 x172000_26 x172001_26 x172002_26 x172003_26 x172004_26 x172005_26 x172006_26 x172007_26 x172008_26 t203 t204 t205 t206 t207 t208 t209 t210 t211) = some r := by rw [if_neg (show ¬ (false = true) by decide)] at H; exact H
                clear H
                have H := H1
                clear H1
                have H' := Aside0.mk H
                clear H; have b315 := NB217_160.out; have d315 := NB160_217.out; have b316 := NB217_171.out; have d316 := NB171_217.out; have b317 := NB217_175.out; have d317 := NB175_217.out; have b318 := NB217_198.out; have d318 := NB198_217.out
                obtain ⟨z319_0, z319_1, z319_2, z319_3, z319_4, z319_5, z319_6, z319_7, z319_8⟩ := Sq.c9 BK217.out
                obtain ⟨y319_0, y319_1, y319_2, y319_3, y319_4, y319_5, y319_6, y319_7, y319_8⟩ := Sq.f9 BK217.out
                go_wp2
                refine Cu.meet (by assumption) ?_ (by kernel_rfl) (by kernel_rfl)
                try dsimp only [Cu.pick, Cu.nth]
                exact ⟨_, (false), Sq.e, H', ⟨by have := HK1.out; have := HJ9.out; have := HJ26.out; have := HJ84.out; have := HJ108.out; have := HJ176.out; first | omega | exact Nat.le_refl _⟩, ⟨Sq.rR HO_199002.out⟩, ⟨Sq.b BK160.out⟩, ⟨Sq.b BK171.out⟩, ⟨Sq.b BK175.out⟩, ⟨Sq.b BK198.out⟩, ⟨Sq.b BK217.out⟩, ⟨Sq.w HB.out⟩⟩
               ·
                intro wc u27 u28 u29 u30 u31 u32 u33 u34 u35 u36 u37 u38 u39 u40 u41 u42 u43 u44 u45 u46 u47 u48 u49 u50 u51 u52 u53 u54 u55 u56 u57 u58 u59 u60 u61 u62 u63 u64 u65 u66 u67 u68 u69 u70 u71 u72 u73 u74 u75 u76 u77 u78 u79 u80 u81 u82 u83 u84 u85 u86 u87 u88 u89 u90 u91 u92 u93 u94 u95 u96 u97 u98 u99 u100 u101 u102 u103 u104 u105 u106 u107 u108 u109 u110 u111 u112 u113 u114 u115 u116 u117 u118 u119 u120 u121 u122 u123 u124 u125 u126 u127 u128 u129 u130 u131 u132 u133 u134 u135 u136 u137 u138 u139 u140 u141 u142 u143 u144 u145 u146 u147 u148 u150 u151 u152 u153 u154 u155 u156 u157 u158 u159 u160 u161 u162 u163 u164 u165 u166 u167 u168 u169 u170 u171 u172 u173 u174 u175 u176 u177 u178 u179 u180 u181 u182 u183 u184 u185 u186 u187 u188 u189 u190 u191 u192 u193 u194 u195 u196 u197 u198 u199 u200 u201 u202
                try dsimp only [Cu.over, Cu.nth]
                intro hcut
                clear HC272
                obtain ⟨kq, x190_271, rfl, HA, HJ271, HO_199002, BK160, BK171, BK175, BK198, BK217, HB⟩ := hcut
                cases kq with
                | zero => exact absurd HA.out (by simp [gimballaw9_DrvFails.j6])
                | succ kj271 =>
                 have H := HA.out
                 clear HA
                 simp only [gimballaw9_DrvFails.j6] at H
                 by_cases c320 : x190_271 = true
                 ·subst c320
                  have H1 : (some false) = some r := by rw [if_pos rfl] at H; exact H
                  clear H
                  have H := H1
                  clear H1
                  exact absurd ((Option.some.inj H).trans hrt_.out) (by simp)
                 replace c320 := Bool.eq_false_iff.mpr c320
                 subst c320
                 have H1 : (if x15_108 = true then (gimballaw9_DrvFails.l0 kj271 x5_176 x6_176 (wrap64 (x7_1 + 1)) l0_0 t203 t204 t205 t206 t207 t208 t209 t210 t211) else (if x172004_26 = 7 then (gimballaw9_DrvFails.l0 kj271 0 x6_176 (wrap64 (x7_1 + 1)) l0_0 t203 t204 t205 t206 t207 t208 t209 t210 t211) else (if x5_176 = 3 then (gimballaw9_DrvFails.l0 kj271 0 x6_176 (wrap64 (x7_1 + 1)) l0_0 t203 t204 t205 t206 t207 t208 t209 t210 t211) else (gimballaw9_DrvFails.l0 kj271 x5_176 x6_176 (wrap64 (x7_1 + 1)) l0_0 t203 t204 t205 t206 t207 t208 t209 t210 t211)))) = some r := by rw [if_neg (show ¬ (false = true) by decide)] at H; exact H
                 clear H
                 have H := H1
                 clear H1
                 by_cases c321 : x15_108 = true
                 ·subst c321
                  have H1 : (gimballaw9_DrvFails.l0 kj271 x5_176 x6_176 (wrap64 (x7_1 + 1)) l0_0 t203 t204 t205 t206 t207 t208 t209 t210 t211) = some r := by rw [if_pos rfl] at H; exact H
                  clear H
                  have H := H1
                  clear H1
                  have H' := Aside0.mk H
                  clear H; have b322 := NB217_160.out; have d322 := NB160_217.out; have b323 := NB217_171.out; have d323 := NB171_217.out; have b324 := NB217_175.out; have d324 := NB175_217.out; have b325 := NB217_198.out; have d325 := NB198_217.out
                  obtain ⟨z326_0, z326_1, z326_2, z326_3, z326_4, z326_5, z326_6, z326_7, z326_8⟩ := Sq.c9 BK217.out
                  obtain ⟨y326_0, y326_1, y326_2, y326_3, y326_4, y326_5, y326_6, y326_7, y326_8⟩ := Sq.f9 BK217.out
                  have b327 := NB171_160.out; have d327 := NB160_171.out; have b328 := NB171_175.out; have d328 := NB175_171.out; have b329 := NB171_198.out; have d329 := NB198_171.out
                  obtain ⟨z330_0, z330_1, z330_2, z330_3, z330_4, z330_5, z330_6, z330_7, z330_8⟩ := Sq.c9 BK171.out
                  obtain ⟨y330_0, y330_1, y330_2, y330_3, y330_4, y330_5, y330_6, y330_7, y330_8⟩ := Sq.f9 BK171.out
                  go_wp2
                  refine Cu.handed kj271 (by have := HK1.out; have := HJ9.out; have := HJ26.out; have := HJ84.out; have := HJ108.out; have := HJ176.out; have := HJ271.out; omega) (by assumption) ?_ (by kernel_rfl) (by kernel_rfl)
                  try dsimp only [Cu.pick, Cu.nth]
                  exact ⟨(x5_176), (x6_176), (wrap64 (x7_1 + 1)), (t203), (t204), (t205), (t206), (t207), (t208), (t209), (t210), (t211), Sq.e, Sq.e, Sq.e, H', ⟨by have := HK1.out; have := HJ9.out; have := HJ26.out; have := HJ84.out; have := HJ108.out; have := HJ176.out; have := HJ271.out; omega⟩, ⟨Sq.F BK160.out⟩, ⟨Sq.B BK171.out⟩, ⟨Sq.w HB.out⟩⟩
                 replace c321 := Bool.eq_false_iff.mpr c321
                 subst c321
                 have H1 : (if x172004_26 = 7 then (gimballaw9_DrvFails.l0 kj271 0 x6_176 (wrap64 (x7_1 + 1)) l0_0 t203 t204 t205 t206 t207 t208 t209 t210 t211) else (if x5_176 = 3 then (gimballaw9_DrvFails.l0 kj271 0 x6_176 (wrap64 (x7_1 + 1)) l0_0 t203 t204 t205 t206 t207 t208 t209 t210 t211) else (gimballaw9_DrvFails.l0 kj271 x5_176 x6_176 (wrap64 (x7_1 + 1)) l0_0 t203 t204 t205 t206 t207 t208 t209 t210 t211))) = some r := by rw [if_neg (show ¬ (false = true) by decide)] at H; exact H
                 clear H
                 have H := H1
                 clear H1
                 by_cases c331 : x172004_26 = 7
                 ·rw [if_pos c331] at H
                  have c331b0 : (x172004_26 == 7) = true := beq_iff_eq.mpr c331
                  have c331b1 : (x172004_26 != 7) = false := bne_eq_false_iff_eq.mpr c331
                  clear c331
                  have H' := Aside0.mk H
                  clear H; have b332 := NB171_160.out; have d332 := NB160_171.out; have b333 := NB171_175.out; have d333 := NB175_171.out; have b334 := NB171_198.out; have d334 := NB198_171.out; have b335 := NB171_217.out; have d335 := NB217_171.out
                  obtain ⟨z336_0, z336_1, z336_2, z336_3, z336_4, z336_5, z336_6, z336_7, z336_8⟩ := Sq.c9 BK171.out
                  obtain ⟨y336_0, y336_1, y336_2, y336_3, y336_4, y336_5, y336_6, y336_7, y336_8⟩ := Sq.f9 BK171.out
                  have b337 := NB217_160.out; have d337 := NB160_217.out; have b338 := NB217_175.out; have d338 := NB175_217.out; have b339 := NB217_198.out; have d339 := NB198_217.out
                  obtain ⟨z340_0, z340_1, z340_2, z340_3, z340_4, z340_5, z340_6, z340_7, z340_8⟩ := Sq.c9 BK217.out
                  obtain ⟨y340_0, y340_1, y340_2, y340_3, y340_4, y340_5, y340_6, y340_7, y340_8⟩ := Sq.f9 BK217.out
                  go_wp2
                  refine Cu.handed kj271 (by have := HK1.out; have := HJ9.out; have := HJ26.out; have := HJ84.out; have := HJ108.out; have := HJ176.out; have := HJ271.out; omega) (by assumption) ?_ (by kernel_rfl) (by kernel_rfl)
                  try dsimp only [Cu.pick, Cu.nth]
                  exact ⟨(0), (x6_176), (wrap64 (x7_1 + 1)), (t203), (t204), (t205), (t206), (t207), (t208), (t209), (t210), (t211), Sq.e, Sq.e, Sq.e, H', ⟨by have := HK1.out; have := HJ9.out; have := HJ26.out; have := HJ84.out; have := HJ108.out; have := HJ176.out; have := HJ271.out; omega⟩, ⟨Sq.F BK160.out⟩, ⟨Sq.B BK171.out⟩, ⟨Sq.w HB.out⟩⟩
                 rw [if_neg c331] at H
                 have c331b0 : (x172004_26 == 7) = false := beq_eq_false_iff_ne.mpr c331
                 have c331b1 : (x172004_26 != 7) = true := bne_iff_ne.mpr c331
                 by_cases c341 : x5_176 = 3
                 ·rw [if_pos c341] at H
                  have c341b0 : (x5_176 == 3) = true := beq_iff_eq.mpr c341
                  have c341b1 : (x5_176 != 3) = false := bne_eq_false_iff_eq.mpr c341
                  clear c341
                  have H' := Aside0.mk H
                  clear H; have b342 := NB171_160.out; have d342 := NB160_171.out; have b343 := NB171_175.out; have d343 := NB175_171.out; have b344 := NB171_198.out; have d344 := NB198_171.out; have b345 := NB171_217.out; have d345 := NB217_171.out
                  obtain ⟨z346_0, z346_1, z346_2, z346_3, z346_4, z346_5, z346_6, z346_7, z346_8⟩ := Sq.c9 BK171.out
                  obtain ⟨y346_0, y346_1, y346_2, y346_3, y346_4, y346_5, y346_6, y346_7, y346_8⟩ := Sq.f9 BK171.out
                  have b347 := NB217_160.out; have d347 := NB160_217.out; have b348 := NB217_175.out; have d348 := NB175_217.out; have b349 := NB217_198.out; have d349 := NB198_217.out
                  obtain ⟨z350_0, z350_1, z350_2, z350_3, z350_4, z350_5, z350_6, z350_7, z350_8⟩ := Sq.c9 BK217.out
                  obtain ⟨y350_0, y350_1, y350_2, y350_3, y350_4, y350_5, y350_6, y350_7, y350_8⟩ := Sq.f9 BK217.out
                  go_wp2
                  refine Cu.handed kj271 (by have := HK1.out; have := HJ9.out; have := HJ26.out; have := HJ84.out; have := HJ108.out; have := HJ176.out; have := HJ271.out; omega) (by assumption) ?_ (by kernel_rfl) (by kernel_rfl)
                  try dsimp only [Cu.pick, Cu.nth]
                  exact ⟨(0), (x6_176), (wrap64 (x7_1 + 1)), (t203), (t204), (t205), (t206), (t207), (t208), (t209), (t210), (t211), Sq.e, Sq.e, Sq.e, H', ⟨by have := HK1.out; have := HJ9.out; have := HJ26.out; have := HJ84.out; have := HJ108.out; have := HJ176.out; have := HJ271.out; omega⟩, ⟨Sq.F BK160.out⟩, ⟨Sq.B BK171.out⟩, ⟨Sq.w HB.out⟩⟩
                 rw [if_neg c341] at H
                 have c341b0 : (x5_176 == 3) = false := beq_eq_false_iff_ne.mpr c341
                 have c341b1 : (x5_176 != 3) = true := bne_iff_ne.mpr c341
                 have H' := Aside0.mk H
                 clear H; have b351 := NB171_160.out; have d351 := NB160_171.out; have b352 := NB171_175.out; have d352 := NB175_171.out; have b353 := NB171_198.out; have d353 := NB198_171.out; have b354 := NB171_217.out; have d354 := NB217_171.out
                 obtain ⟨z355_0, z355_1, z355_2, z355_3, z355_4, z355_5, z355_6, z355_7, z355_8⟩ := Sq.c9 BK171.out
                 obtain ⟨y355_0, y355_1, y355_2, y355_3, y355_4, y355_5, y355_6, y355_7, y355_8⟩ := Sq.f9 BK171.out
                 have b356 := NB217_160.out; have d356 := NB160_217.out; have b357 := NB217_175.out; have d357 := NB175_217.out; have b358 := NB217_198.out; have d358 := NB198_217.out
                 obtain ⟨z359_0, z359_1, z359_2, z359_3, z359_4, z359_5, z359_6, z359_7, z359_8⟩ := Sq.c9 BK217.out
                 obtain ⟨y359_0, y359_1, y359_2, y359_3, y359_4, y359_5, y359_6, y359_7, y359_8⟩ := Sq.f9 BK217.out
                 go_wp2
                 refine Cu.handed kj271 (by have := HK1.out; have := HJ9.out; have := HJ26.out; have := HJ84.out; have := HJ108.out; have := HJ176.out; have := HJ271.out; omega) (by assumption) ?_ (by kernel_rfl) (by kernel_rfl)
                 try dsimp only [Cu.pick, Cu.nth]
                 exact ⟨(x5_176), (x6_176), (wrap64 (x7_1 + 1)), (t203), (t204), (t205), (t206), (t207), (t208), (t209), (t210), (t211), Sq.e, Sq.e, Sq.e, H', ⟨by have := HK1.out; have := HJ9.out; have := HJ26.out; have := HJ84.out; have := HJ108.out; have := HJ176.out; have := HJ271.out; omega⟩, ⟨Sq.F BK160.out⟩, ⟨Sq.B BK171.out⟩, ⟨Sq.w HB.out⟩⟩
          replace c108 := Bool.eq_false_iff.mpr c108
          subst c108
          have H1 : (gimballaw9_DrvFails.l0 kj84 x5_26 x6_1 (wrap64 (x7_1 + 1)) l0_0 x172000_26 x172001_26 x172002_26 x172003_26 x172004_26 x172005_26 x172006_26 x172007_26 x172008_26) = some r := by rw [if_neg (show ¬ (false = true) by decide)] at H; exact H
          clear H
          have H := H1
          clear H1
          have H' := Aside0.mk H
          clear H
          go_wp2
          refine Cu.handed kj84 (by have := HK1.out; have := HJ9.out; have := HJ26.out; have := HJ84.out; omega) (by assumption) ?_ (by kernel_rfl) (by kernel_rfl)
          try dsimp only [Cu.pick, Cu.nth]
          exact ⟨(x5_26), (x6_1), (wrap64 (x7_1 + 1)), (x172000_26), (x172001_26), (x172002_26), (x172003_26), (x172004_26), (x172005_26), (x172006_26), (x172007_26), (x172008_26), Sq.e, Sq.e, Sq.e, H', ⟨by have := HK1.out; have := HJ9.out; have := HJ26.out; have := HJ84.out; omega⟩, ⟨Sq.b BK160.out⟩, ⟨Sq.b BK171.out⟩, ⟨Sq.w HB.out⟩⟩
     replace c16 := Bool.eq_false_iff.mpr c16
     subst c16
     have H1 : ((gimballaw9_wakes.f).bind fun t173 => (some t173)) = some r := by rw [if_neg (show ¬ (false = true) by decide)] at H; exact H
     clear H
     have H := H1
     clear H1
     replace H := Option.bind_eq_some_iff.mp H
     obtain ⟨t173, A3600, H⟩ := H
     replace H : (some t173) = some r := H
     have A360 := Aside0.mk A3600
     clear A3600
     obtain rfl := Option.some.inj H
     go_wp2_with (first | ((with_reducible refine gate_callee (f := 13) rfl ?_); refine goesL_ (some 203) rfl rfl Try.func13 (by kernel_rfl) rfl #[] rfl Sq.m ?_; (with_reducible refine (gimballaw9_wakes.calls  t173 _ A360.out).mono ?_); rintro e w361 ⟨rfl, hb⟩; refine ⟨_, rfl, ?_⟩; replace BK160 := Sq.sb BK160 hb; replace BK171 := Sq.sb BK171 hb; replace HB := Sq.sw HB hb; (try clear hb); (try clear hb2); (try clear hk); (try clear hi)))
     go_ret
     exact ⟨by first | rfl | (simp [errW_none, errW_some] <;> rfl) | (simp [*, errW_none, errW_some] <;> rfl), Sq.w HB.out⟩
end Go.Proofs.Ytnlmbejkemkkoaa.PDrvFails
