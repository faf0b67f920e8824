import Derived.Test.YtnlmbejkemkkoaaCut
import Derived.Test.YtnlmbejkemkkoaaTw
import Derived.Test.YtnlmbejkemkkoaaPDrvExactx0
import Derived.Test.YtnlmbejkemkkoaaPDrvExactx7
namespace Go.Proofs.Ytnlmbejkemkkoaa.PDrvExact
open Go.RowKit Go.Proofs.YtnlmbejkemkkoaaW.PrintWords Go.Proofs.YtnlmbejkemkkoaaW.PrintLast Go.Proofs.YtnlmbejkemkkoaaW.PrintMore
attribute [local go_sem] max2_int min2_int max_two min_two max_three min_three max_four min_four   -- for this text's walks alone
set_option linter.unusedVariables false
set_option linter.unusedSimpArgs false

/-! ### gimbalref9_Take: function 23 -/
def gimbalref9_Take.l0 : Nat → List (S55) → Int → Int → Int → Bool → Int → Int → Int → Bool → Int → Int → Int → List Int → Option (Int × Int × Bool × Int × Int × Int × Bool × Int × Int × (List (S55)) × Bool)
 | 0, _, _, _, _, _, _, _, _, _, _, _, _, _ => none
 | k + 1, x9, x10, x192000, x192001, x192002, x192003, x192004, x192005, x192006, x192007, x192008, x193000, x193001 => if x10 < (x193001.length : Int) then (if 0 ≤ x10 then (if x10 ≤ (wrap64 (x10 + 8)) then (if (wrap64 (x10 + 8)) ≤ (x193001.length : Int) then ((gimbalref8_Check.f k ((x193001.take ((wrap64 (x10 + 8)) : Int).toNat).drop (x10 : Int).toNat)).bind fun t219 => (if 7 < (((x193001.take ((wrap64 (x10 + 8)) : Int).toNat).drop (x10 : Int).toNat).length : Int) then (if t219 = (rd ((x193001.take ((wrap64 (x10 + 8)) : Int).toNat).drop (x10 : Int).toNat) 7) then (if 0 < (((x193001.take ((wrap64 (x10 + 8)) : Int).toNat).drop (x10 : Int).toNat).length : Int) then (if 1 < (((x193001.take ((wrap64 (x10 + 8)) : Int).toNat).drop (x10 : Int).toNat).length : Int) then ((gimbalref9_signed.f (rd ((x193001.take ((wrap64 (x10 + 8)) : Int).toNat).drop (x10 : Int).toNat) 0) (rd ((x193001.take ((wrap64 (x10 + 8)) : Int).toNat).drop (x10 : Int).toNat) 1)).bind fun t223 => (if 2 < (((x193001.take ((wrap64 (x10 + 8)) : Int).toNat).drop (x10 : Int).toNat).length : Int) then (if 3 < (((x193001.take ((wrap64 (x10 + 8)) : Int).toNat).drop (x10 : Int).toNat).length : Int) then ((gimbalref9_signed.f (rd ((x193001.take ((wrap64 (x10 + 8)) : Int).toNat).drop (x10 : Int).toNat) 2) (rd ((x193001.take ((wrap64 (x10 + 8)) : Int).toNat).drop (x10 : Int).toNat) 3)).bind fun t226 => (if 4 < (((x193001.take ((wrap64 (x10 + 8)) : Int).toNat).drop (x10 : Int).toNat).length : Int) then (if 5 < (((x193001.take ((wrap64 (x10 + 8)) : Int).toNat).drop (x10 : Int).toNat).length : Int) then ((gimbalref9_signed.f (rd ((x193001.take ((wrap64 (x10 + 8)) : Int).toNat).drop (x10 : Int).toNat) 4) (rd ((x193001.take ((wrap64 (x10 + 8)) : Int).toNat).drop (x10 : Int).toNat) 5)).bind fun t229 => (if 6 < (((x193001.take ((wrap64 (x10 + 8)) : Int).toNat).drop (x10 : Int).toNat).length : Int) then (if x9.length < 4398046511104 then (gimbalref9_Take.l0 k (x9 ++ [(⟨t223, t226, t229, wrap64 (IntKind.i8.wrap (rd ((x193001.take ((wrap64 (x10 + 8)) : Int).toNat).drop (x10 : Int).toNat) 6))⟩ : S55)]) (wrap64 (x10 + 8)) x192000 x192001 x192002 x192003 x192004 x192005 x192006 x192007 x192008 x193000 x193001) else (none)) else (none))) else (none)) else (none))) else (none)) else (none))) else (none)) else (none)) else (if x192008 < 1099511627776 then (gimbalref9_Take.l0 k x9 (wrap64 (x10 + 8)) x192000 x192001 x192002 x192003 x192004 x192005 x192006 x192007 (wrap64 (x192008 + 1)) x193000 x193001) else (gimbalref9_Take.l0 k x9 (wrap64 (x10 + 8)) x192000 x192001 x192002 x192003 x192004 x192005 x192006 x192007 x192008 x193000 x193001))) else (none))) else (none)) else (none)) else (none)) else (some (x192000, x192001, x192002, x192003, 4, x192005, x192006, 0, x192008, x9, false))
def gimbalref9_Take.f (k : Nat) (a0_0 : Int) (a0_1 : Int) (a0_2 : Bool) (a0_3 : Int) (a0_4 : Int) (a0_5 : Int) (a0_6 : Bool) (a0_7 : Int) (a0_8 : Int) (a1_0 : Int) (l1_1 : List Int) : Option (Int × Int × Bool × Int × Int × Int × Bool × Int × Int × (List (S55)) × Bool) := (gimbalref9_Next.f a0_0 a0_1 a0_2 a0_3 a0_4 a0_5 a0_6 a0_7 a0_8).bind fun bt194 => ((gimbalref9_good.f k a0_0 a0_1 a0_2 a0_3 a0_4 a0_5 a0_6 a0_7 a0_8 bt194.1 bt194.2.1 bt194.2.2.1 bt194.2.2.2.1 a1_0 l1_1).bind fun t202 => (if t202 = true then (if a0_4 = 1 then (some (a0_0, a0_1, a0_2, a0_3, 2, 0, a0_6, a0_7, a0_8, ([] : List (S55)), false)) else (if a0_4 = 2 then (some (a0_0, a0_1, a0_2, a0_3, 3, 0, a0_6, a0_7, a0_8, ([] : List (S55)), false)) else (if a0_4 = 3 then (some (a0_0, a0_1, a0_2, a0_3, 4, 0, false, a0_7, a0_8, ([] : List (S55)), false)) else (if a0_4 = 4 then (if 0 < (l1_1.length : Int) then (if (rd l1_1 0) > 0 then (some (a0_0, a0_1, a0_2, a0_3, 5, 0, a0_6, wrap64 (rd l1_1 0), a0_8, ([] : List (S55)), false)) else (some (a0_0, a0_1, a0_2, a0_3, a0_4, 0, a0_6, a0_7, a0_8, ([] : List (S55)), false))) else (none)) else (if a0_4 = 5 then (gimbalref9_Take.l0 k ([] : List (S55)) 0 a0_0 a0_1 a0_2 a0_3 a0_4 0 a0_6 a0_7 a0_8 a1_0 l1_1) else (if a0_4 = 6 then (some (a0_0, a0_1, a0_2, a0_3, 0, 0, false, a0_7, a0_8, ([] : List (S55)), false)) else (if a0_4 = 7 then (if a0_2 = true then (some (a0_0, a0_1, a0_2, a0_3, 1, 0, true, a0_7, a0_8, ([] : List (S55)), false)) else (some (a0_0, a0_1, a0_2, a0_3, 6, 0, true, a0_7, a0_8, ([] : List (S55)), false))) else (some (a0_0, a0_1, a0_2, a0_3, a0_4, 0, a0_6, a0_7, a0_8, ([] : List (S55)), false))))))))) else ((gimbalref9_bad.f k a0_0 a0_1 a0_2 a0_3 a0_4 a0_5 a0_6 a0_7 a0_8).bind fun bt203 => (some (bt203.1, bt203.2.1, bt203.2.2.1, bt203.2.2.2.1, bt203.2.2.2.2.1, bt203.2.2.2.2.2.1, bt203.2.2.2.2.2.2.1, bt203.2.2.2.2.2.2.2.1, bt203.2.2.2.2.2.2.2.2.1, bt203.2.2.2.2.2.2.2.2.2.1, bt203.2.2.2.2.2.2.2.2.2.2)))))
theorem gimbalref9_Take.mono_l : ∀ k, (∀ y0 y1 y2 y3 y4 y5 y6 y7 y8 y9 y10 y11 y12, LeO (gimbalref9_Take.l0 k y0 y1 y2 y3 y4 y5 y6 y7 y8 y9 y10 y11 y12) (gimbalref9_Take.l0 (k + 1) y0 y1 y2 y3 y4 y5 y6 y7 y8 y9 y10 y11 y12))
 | 0 => fun _ _ _ _ _ _ _ _ _ _ _ _ _ r h => by simp [gimbalref9_Take.l0] at h
 | k + 1 => by
  have ih0 := gimbalref9_Take.mono_l k
  ·intro y0 y1 y2 y3 y4 y5 y6 y7 y8 y9 y10 y11 y12
   unfold gimbalref9_Take.l0
   repeat' first
   | (with_reducible exact ih0 _ _ _ _ _ _ _ _ _ _ _ _ _)
   | (with_reducible exact gimbalref8_Check.mono _ _)
   | (with_reducible exact gimbalref9_bad.mono _ _ _ _ _ _ _ _ _ _)
   | (with_reducible exact gimbalref9_good.mono _ _ _ _ _ _ _ _ _ _ _ _ _ _ _ _)
   | (with_reducible exact LeO.refl _)
   | (with_reducible exact LeO.none _)
   | (with_reducible refine LeO.ite ?_ ?_)
   | (with_reducible refine LeO.bind ?_ (fun _ => ?_))
   | exact ih0 _ _ _ _ _ _ _ _ _ _ _ _ _
   | exact gimbalref8_Check.mono _ _
   | exact gimbalref9_bad.mono _ _ _ _ _ _ _ _ _ _
   | exact gimbalref9_good.mono _ _ _ _ _ _ _ _ _ _ _ _ _ _ _ _
   | exact LeO.none _
   | refine LeO.ite ?_ ?_
   | refine LeO.bind ?_ (fun _ => ?_)
theorem gimbalref9_Take.mono : ∀ a0 a1 a2 a3 a4 a5 a6 a7 a8 a9 a10 k, LeO (gimbalref9_Take.f k a0 a1 a2 a3 a4 a5 a6 a7 a8 a9 a10) (gimbalref9_Take.f (k + 1) a0 a1 a2 a3 a4 a5 a6 a7 a8 a9 a10) := by
 intro a0 a1 a2 a3 a4 a5 a6 a7 a8 a9 a10 k
 have ih0 := gimbalref9_Take.mono_l k
 unfold gimbalref9_Take.f
 repeat' first
   | (with_reducible exact ih0 _ _ _ _ _ _ _ _ _ _ _ _ _)
   | (with_reducible exact gimbalref8_Check.mono _ _)
   | (with_reducible exact gimbalref9_bad.mono _ _ _ _ _ _ _ _ _ _)
   | (with_reducible exact gimbalref9_good.mono _ _ _ _ _ _ _ _ _ _ _ _ _ _ _ _)
   | (with_reducible exact LeO.refl _)
   | (with_reducible exact LeO.none _)
   | (with_reducible refine LeO.ite ?_ ?_)
   | (with_reducible refine LeO.bind ?_ (fun _ => ?_))
   | exact ih0 _ _ _ _ _ _ _ _ _ _ _ _ _
   | exact gimbalref8_Check.mono _ _
   | exact gimbalref9_bad.mono _ _ _ _ _ _ _ _ _ _
   | exact gimbalref9_good.mono _ _ _ _ _ _ _ _ _ _ _ _ _ _ _ _
   | exact LeO.none _
   | refine LeO.ite ?_ ?_
   | refine LeO.bind ?_ (fun _ => ?_)
def gimbalref9_Take.T26 : Bool × List (List Nat × List Nat) := (true, [([], []), ([], []), ([1], [1]), ([2], [2]), ([], []), ([4], [4]), ([5], [5]), ([3, 6], [3, 6]), ([], []), ([8], [8]), ([9], [9]), ([], []), ([11], [11]), ([12], [12]), ([10, 13, 7], [10, 13]), ([], []), ([15], [15]), ([16], [16]), ([], []), ([18], [18]), ([19], [19]), ([17, 20, 14], [17, 20]), ([], []), ([22], [22]), ([23], [23]), ([24], [24]), ([25], [25]), ([7, 14, 21, 26], [7, 14, 21, 26]), ([27], [27]), ([0, 28, 21], [0, 28]), ([29, 29, 0, 1, 2, 3, 4, 5, 6, 7, 8, 9, 10, 11, 12, 13, 14, 15, 16, 17, 18, 19, 20, 21, 22, 23, 24, 25, 26, 27, 28, 29], [0, 29])])
def gimbalref9_Take.B26 : List Nat := [0, 0, 2, 6, 0, 16, 48, 126, 0, 256, 768, 0, 2048, 6144, 16382, 0, 32768, 98304, 0, 262144, 786432, 2097150, 0, 4194304, 12582912, 29360128, 62914560, 134217726, 268435454, 536870911, 1073741823]
theorem gimbalref9_Take.tab26 : rtab .any (opsOf Try.f23 26) = gimbalref9_Take.T26 := by kernel_rfl
theorem gimbalref9_Take.bits26 : waitsOk gimbalref9_Take.T26.2 gimbalref9_Take.B26 = true := by kernel_rfl
set_option maxHeartbeats 8000000 in
set_option maxRecDepth 100000 in
theorem gimbalref9_Take.calls (k : Nat) (a0_0 : Int) (a0_1 : Int) (a0_2 : Bool) (a0_3 : Int) (a0_4 : Int) (a0_5 : Int) (a0_6 : Bool) (a0_7 : Int) (a0_8 : Int) (a1_0 : Int) (A1_1 : Option Addr) (c1_1 : Nat) (l1_1 : List Int) (r1 : Int) (r2 : Int) (r3 : Bool) (r4 : Int) (r5 : Int) (r6 : Int) (r7 : Bool) (r8 : Int) (r9 : Int) (r10 : List (S55)) (r11 : Bool) (w : World) (hr1_1 : Kd.C (Kd.int .u8) w A1_1 l1_1.length l1_1) (hc1_1 : l1_1.length ≤ c1_1) (h : gimbalref9_Take.f k a0_0 a0_1 a0_2 a0_3 a0_4 a0_5 a0_6 a0_7 a0_8 a1_0 l1_1 = some (r1, r2, r3, r4, r5, r6, r7, r8, r9, r10, r11)) :
  Calls Try.prog 23 #[.agg #[.int .i64 a0_0, .int .i64 a0_1, .bool a0_2, .int .i64 a0_3, .int .i64 a0_4, .int .i64 a0_5, .bool a0_6, .int .i64 a0_7, .int .i64 a0_8], .agg #[.int .i64 a1_0, .slice A1_1 l1_1.length c1_1]] w fun e w' => ∃ v9_ : Value, e = .returned (.tuple #[.agg #[.int .i64 r1, .int .i64 r2, .bool r3, .int .i64 r4, .int .i64 r5, .int .i64 r6, .bool r7, .int .i64 r8, .int .i64 r9], v9_, .bool r11]) ∧ Kd.R k55 55 w' w.heap.size (fun _ => True) v9_ r10 ∧ Below w.heap.size w w' := by
 have hu24 := Try.underlying24
 have hu27 := Try.underlying27
 have hu31 := Try.underlying31
 have hu55 := Try.underlying55
 have HR1_1 := Aside0.mk hr1_1
 have HC1_1 := Aside0.mk hc1_1
 clear hr1_1 hc1_1
 have HB := Aside0.mk (Below.refl w.heap.size w)
 have H : ((gimbalref9_Next.f a0_0 a0_1 a0_2 a0_3 a0_4 a0_5 a0_6 a0_7 a0_8).bind fun bt194 => ((gimbalref9_good.f k a0_0 a0_1 a0_2 a0_3 a0_4 a0_5 a0_6 a0_7 a0_8 bt194.1 bt194.2.1 bt194.2.2.1 bt194.2.2.2.1 a1_0 l1_1).bind fun t202 => (if t202 = true then (if a0_4 = 1 then (some (a0_0, a0_1, a0_2, a0_3, 2, 0, a0_6, a0_7, a0_8, ([] : List (S55)), false)) else (if a0_4 = 2 then (some (a0_0, a0_1, a0_2, a0_3, 3, 0, a0_6, a0_7, a0_8, ([] : List (S55)), false)) else (if a0_4 = 3 then (some (a0_0, a0_1, a0_2, a0_3, 4, 0, false, a0_7, a0_8, ([] : List (S55)), false)) else (if a0_4 = 4 then (if 0 < (l1_1.length : Int) then (if (rd l1_1 0) > 0 then (some (a0_0, a0_1, a0_2, a0_3, 5, 0, a0_6, wrap64 (rd l1_1 0), a0_8, ([] : List (S55)), false)) else (some (a0_0, a0_1, a0_2, a0_3, a0_4, 0, a0_6, a0_7, a0_8, ([] : List (S55)), false))) else (none)) else (if a0_4 = 5 then (gimbalref9_Take.l0 k ([] : List (S55)) 0 a0_0 a0_1 a0_2 a0_3 a0_4 0 a0_6 a0_7 a0_8 a1_0 l1_1) else (if a0_4 = 6 then (some (a0_0, a0_1, a0_2, a0_3, 0, 0, false, a0_7, a0_8, ([] : List (S55)), false)) else (if a0_4 = 7 then (if a0_2 = true then (some (a0_0, a0_1, a0_2, a0_3, 1, 0, true, a0_7, a0_8, ([] : List (S55)), false)) else (some (a0_0, a0_1, a0_2, a0_3, 6, 0, true, a0_7, a0_8, ([] : List (S55)), false))) else (some (a0_0, a0_1, a0_2, a0_3, a0_4, 0, a0_6, a0_7, a0_8, ([] : List (S55)), false))))))))) else ((gimbalref9_bad.f k a0_0 a0_1 a0_2 a0_3 a0_4 a0_5 a0_6 a0_7 a0_8).bind fun bt203 => (some (bt203.1, bt203.2.1, bt203.2.2.1, bt203.2.2.2.1, bt203.2.2.2.2.1, bt203.2.2.2.2.2.1, bt203.2.2.2.2.2.2.1, bt203.2.2.2.2.2.2.2.1, bt203.2.2.2.2.2.2.2.2.1, bt203.2.2.2.2.2.2.2.2.2.1, bt203.2.2.2.2.2.2.2.2.2.2)))))) = some (r1, r2, r3, r4, r5, r6, r7, r8, r9, r10, r11) := h
 clear h
 replace H := Option.bind_eq_some_iff.mp H
 obtain ⟨⟨t194, t195, t196, t199, t200⟩, A30, H⟩ := H
 replace H : ((gimbalref9_good.f k a0_0 a0_1 a0_2 a0_3 a0_4 a0_5 a0_6 a0_7 a0_8 t194 t195 t196 t199 a1_0 l1_1).bind fun t202 => (if t202 = true then (if a0_4 = 1 then (some (a0_0, a0_1, a0_2, a0_3, 2, 0, a0_6, a0_7, a0_8, ([] : List (S55)), false)) else (if a0_4 = 2 then (some (a0_0, a0_1, a0_2, a0_3, 3, 0, a0_6, a0_7, a0_8, ([] : List (S55)), false)) else (if a0_4 = 3 then (some (a0_0, a0_1, a0_2, a0_3, 4, 0, false, a0_7, a0_8, ([] : List (S55)), false)) else (if a0_4 = 4 then (if 0 < (l1_1.length : Int) then (if (rd l1_1 0) > 0 then (some (a0_0, a0_1, a0_2, a0_3, 5, 0, a0_6, wrap64 (rd l1_1 0), a0_8, ([] : List (S55)), false)) else (some (a0_0, a0_1, a0_2, a0_3, a0_4, 0, a0_6, a0_7, a0_8, ([] : List (S55)), false))) else (none)) else (if a0_4 = 5 then (gimbalref9_Take.l0 k ([] : List (S55)) 0 a0_0 a0_1 a0_2 a0_3 a0_4 0 a0_6 a0_7 a0_8 a1_0 l1_1) else (if a0_4 = 6 then (some (a0_0, a0_1, a0_2, a0_3, 0, 0, false, a0_7, a0_8, ([] : List (S55)), false)) else (if a0_4 = 7 then (if a0_2 = true then (some (a0_0, a0_1, a0_2, a0_3, 1, 0, true, a0_7, a0_8, ([] : List (S55)), false)) else (some (a0_0, a0_1, a0_2, a0_3, 6, 0, true, a0_7, a0_8, ([] : List (S55)), false))) else (some (a0_0, a0_1, a0_2, a0_3, a0_4, 0, a0_6, a0_7, a0_8, ([] : List (S55)), false))))))))) else ((gimbalref9_bad.f k a0_0 a0_1 a0_2 a0_3 a0_4 a0_5 a0_6 a0_7 a0_8).bind fun bt203 => (some (bt203.1, bt203.2.1, bt203.2.2.1, bt203.2.2.2.1, bt203.2.2.2.2.1, bt203.2.2.2.2.2.1, bt203.2.2.2.2.2.2.1, bt203.2.2.2.2.2.2.2.1, bt203.2.2.2.2.2.2.2.2.1, bt203.2.2.2.2.2.2.2.2.2.1, bt203.2.2.2.2.2.2.2.2.2.2))))) = some (r1, r2, r3, r4, r5, r6, r7, r8, r9, r10, r11) := H
 have A3 := Aside0.mk A30
 clear A30
 replace H := Option.bind_eq_some_iff.mp H
 obtain ⟨t202, A40, H⟩ := H
 replace H : (if t202 = true then (if a0_4 = 1 then (some (a0_0, a0_1, a0_2, a0_3, 2, 0, a0_6, a0_7, a0_8, ([] : List (S55)), false)) else (if a0_4 = 2 then (some (a0_0, a0_1, a0_2, a0_3, 3, 0, a0_6, a0_7, a0_8, ([] : List (S55)), false)) else (if a0_4 = 3 then (some (a0_0, a0_1, a0_2, a0_3, 4, 0, false, a0_7, a0_8, ([] : List (S55)), false)) else (if a0_4 = 4 then (if 0 < (l1_1.length : Int) then (if (rd l1_1 0) > 0 then (some (a0_0, a0_1, a0_2, a0_3, 5, 0, a0_6, wrap64 (rd l1_1 0), a0_8, ([] : List (S55)), false)) else (some (a0_0, a0_1, a0_2, a0_3, a0_4, 0, a0_6, a0_7, a0_8, ([] : List (S55)), false))) else (none)) else (if a0_4 = 5 then (gimbalref9_Take.l0 k ([] : List (S55)) 0 a0_0 a0_1 a0_2 a0_3 a0_4 0 a0_6 a0_7 a0_8 a1_0 l1_1) else (if a0_4 = 6 then (some (a0_0, a0_1, a0_2, a0_3, 0, 0, false, a0_7, a0_8, ([] : List (S55)), false)) else (if a0_4 = 7 then (if a0_2 = true then (some (a0_0, a0_1, a0_2, a0_3, 1, 0, true, a0_7, a0_8, ([] : List (S55)), false)) else (some (a0_0, a0_1, a0_2, a0_3, 6, 0, true, a0_7, a0_8, ([] : List (S55)), false))) else (some (a0_0, a0_1, a0_2, a0_3, a0_4, 0, a0_6, a0_7, a0_8, ([] : List (S55)), false))))))))) else ((gimbalref9_bad.f k a0_0 a0_1 a0_2 a0_3 a0_4 a0_5 a0_6 a0_7 a0_8).bind fun bt203 => (some (bt203.1, bt203.2.1, bt203.2.2.1, bt203.2.2.2.1, bt203.2.2.2.2.1, bt203.2.2.2.2.2.1, bt203.2.2.2.2.2.2.1, bt203.2.2.2.2.2.2.2.1, bt203.2.2.2.2.2.2.2.2.1, bt203.2.2.2.2.2.2.2.2.2.1, bt203.2.2.2.2.2.2.2.2.2.2)))) = some (r1, r2, r3, r4, r5, r6, r7, r8, r9, r10, r11) := H
 have A4 := Aside0.mk A40
 clear A40
 by_cases c5 : t202 = true
 ·subst c5
  have H1 : (if a0_4 = 1 then (some (a0_0, a0_1, a0_2, a0_3, 2, 0, a0_6, a0_7, a0_8, ([] : List (S55)), false)) else (if a0_4 = 2 then (some (a0_0, a0_1, a0_2, a0_3, 3, 0, a0_6, a0_7, a0_8, ([] : List (S55)), false)) else (if a0_4 = 3 then (some (a0_0, a0_1, a0_2, a0_3, 4, 0, false, a0_7, a0_8, ([] : List (S55)), false)) else (if a0_4 = 4 then (if 0 < (l1_1.length : Int) then (if (rd l1_1 0) > 0 then (some (a0_0, a0_1, a0_2, a0_3, 5, 0, a0_6, wrap64 (rd l1_1 0), a0_8, ([] : List (S55)), false)) else (some (a0_0, a0_1, a0_2, a0_3, a0_4, 0, a0_6, a0_7, a0_8, ([] : List (S55)), false))) else (none)) else (if a0_4 = 5 then (gimbalref9_Take.l0 k ([] : List (S55)) 0 a0_0 a0_1 a0_2 a0_3 a0_4 0 a0_6 a0_7 a0_8 a1_0 l1_1) else (if a0_4 = 6 then (some (a0_0, a0_1, a0_2, a0_3, 0, 0, false, a0_7, a0_8, ([] : List (S55)), false)) else (if a0_4 = 7 then (if a0_2 = true then (some (a0_0, a0_1, a0_2, a0_3, 1, 0, true, a0_7, a0_8, ([] : List (S55)), false)) else (some (a0_0, a0_1, a0_2, a0_3, 6, 0, true, a0_7, a0_8, ([] : List (S55)), false))) else (some (a0_0, a0_1, a0_2, a0_3, a0_4, 0, a0_6, a0_7, a0_8, ([] : List (S55)), false))))))))) = some (r1, r2, r3, r4, r5, r6, r7, r8, r9, r10, r11) := by rw [if_pos rfl] at H; exact H
  clear H
  have H := H1
  clear H1
  by_cases c6 : a0_4 = 1
  ·rw [if_pos c6] at H
   have c6b0 : (a0_4 == 1) = true := beq_iff_eq.mpr c6
   have c6b1 : (a0_4 != 1) = false := bne_eq_false_iff_eq.mpr c6
   clear c6
   simp only [Option.some.injEq, Prod.mk.injEq] at H
   obtain ⟨rfl, rfl, rfl, rfl, rfl, rfl, rfl, rfl, rfl, rfl, rfl⟩ := H
   go_enter Try.func23, Try.ntmps23
   go_wp2_with (first | ((with_reducible refine gate_dst (N := 2) rfl ?_); refine box_event ?hg (N := 2) ?hd (cs := #[.int .i64 a0_0, .int .i64 a0_1, .bool a0_2, .int .i64 a0_3, .int .i64 a0_4, .int .i64 a0_5, .bool a0_6, .int .i64 a0_7, .int .i64 a0_8]) (t := 24) ?hr ?_; (case hd => rfl); (case hg => rfl); (case hr => first | (go_simp; done) | (go_simp; rfl)); intro gb191 hg w7 hbox hb; have BK191 := Aside0.mk hbox; have GW191 := Sq.ge hg HB; have GE191 := Sq.ge hg HB; replace HB := Sq.sw HB hb; clear hb hbox hg) | ((with_reducible refine gate_dst (N := 3) rfl ?_); refine box_event ?hg (N := 3) ?hd (cs := #[.int .i64 a1_0, .slice A1_1 l1_1.length c1_1]) (t := 27) ?hr ?_; (case hd => rfl); (case hg => rfl); (case hr => first | (go_simp; done) | (go_simp; rfl)); intro gb192 hg w8 hbox hb; have BK192 := Aside0.mk hbox; have GW192 := Sq.ge hg HB; have GE192 := Sq.ge hg HB; obtain ⟨NB191_192, NB192_191⟩ := Sq.np hg BK191; replace BK191 := Sq.sb BK191 hb; replace HB := Sq.sw HB hb; clear hb hbox hg) | ((with_reducible refine gate_dst (N := 4) rfl ?_); refine box_event ?hg (N := 4) ?hd (cs := #[.int .i64 0, .int .i64 0, .bool false, .int .i64 0, .int .i64 0, .int .i64 0, .bool false, .int .i64 0, .int .i64 0]) (t := 24) ?hr ?_; (case hd => rfl); (case hg => rfl); (case hr => first | (go_simp; done) | (go_simp; rfl)); intro gb193 hg w9 hbox hb; have BK193 := Aside0.mk hbox; have GW193 := Sq.ge hg HB; have GE193 := Sq.ge hg HB; obtain ⟨NB191_193, NB193_191⟩ := Sq.np hg BK191; obtain ⟨NB192_193, NB193_192⟩ := Sq.np hg BK192; replace BK191 := Sq.sb BK191 hb; replace BK192 := Sq.sb BK192 hb; replace HB := Sq.sw HB hb; clear hb hbox hg; have b10 := NB191_192.out; have d10 := NB192_191.out; have b11 := NB191_193.out; have d11 := NB193_191.out; obtain ⟨z12_0, z12_1, z12_2, z12_3, z12_4, z12_5, z12_6, z12_7, z12_8⟩ := Sq.c9 BK191.out; obtain ⟨y12_0, y12_1, y12_2, y12_3, y12_4, y12_5, y12_6, y12_7, y12_8⟩ := Sq.f9 BK191.out) | ((with_reducible refine gate_callee (f := 22) rfl ?_); refine goesL_ (some 14) rfl rfl Try.func22 (by kernel_rfl) rfl #[.agg #[.int .i64 a0_0, .int .i64 a0_1, .bool a0_2, .int .i64 a0_3, .int .i64 a0_4, .int .i64 a0_5, .bool a0_6, .int .i64 a0_7, .int .i64 a0_8]] rfl Sq.m ?_; (with_reducible refine (gimbalref9_Next.calls a0_0 a0_1 a0_2 a0_3 a0_4 a0_5 a0_6 a0_7 a0_8 t194 t195 t196 t199 t200 _ A3.out).mono ?_); rintro e w13 ⟨v197, rfl, ho0, hb⟩; refine ⟨_, rfl, ?_⟩; have HO198 := Aside0.mk (Kd.R_lower ho0 (below_size (Sq.w HB.out))); replace BK191 := Sq.sb BK191 hb; replace BK192 := Sq.sb BK192 hb; replace BK193 := Sq.sb BK193 hb; replace HB := Sq.sw HB hb; (try clear hb); (try clear hb2); (try clear hk); (try clear hi); (try clear ho0)) | ((with_reducible refine gate_dst (N := 7) rfl ?_); refine box_event ?hg (N := 7) ?hd (cs := #[.int .i64 0, .int .i64 0, .slice none 0 0, .int .i64 0]) (t := 31) ?hr ?_; (case hd => rfl); (case hg => rfl); (case hr => first | (go_simp; done) | (go_simp; rfl)); intro gb201 hg w14 hbox hb; have BK201 := Aside0.mk hbox; have GW201 := Sq.ge hg HB; have GE201 := Sq.ge hg HB; obtain ⟨NB191_201, NB201_191⟩ := Sq.np hg BK191; obtain ⟨NB192_201, NB201_192⟩ := Sq.np hg BK192; obtain ⟨NB193_201, NB201_193⟩ := Sq.np hg BK193; replace HO198 := Sq.sR HO198 hb; replace BK191 := Sq.sb BK191 hb; replace BK192 := Sq.sb BK192 hb; replace BK193 := Sq.sb BK193 hb; replace HB := Sq.sw HB hb; clear hb hbox hg; have b15 := NB201_191.out; have d15 := NB191_201.out; have b16 := NB201_192.out; have d16 := NB192_201.out; have b17 := NB201_193.out; have d17 := NB193_201.out; obtain ⟨z18_0, z18_1, z18_2, z18_3⟩ := Sq.c4 BK201.out; obtain ⟨y18_0, y18_1, y18_2, y18_3⟩ := Sq.f4 BK201.out; obtain ⟨Ao19, co19, eo19⟩ := Kd.R_slice HO198.out; subst eo19; obtain ⟨z20_0, z20_1, z20_2, z20_3, z20_4, z20_5, z20_6, z20_7, z20_8⟩ := Sq.c9 BK191.out; obtain ⟨y20_0, y20_1, y20_2, y20_3, y20_4, y20_5, y20_6, y20_7, y20_8⟩ := Sq.f9 BK191.out; have b21 := NB192_193.out; have d21 := NB193_192.out; obtain ⟨z22_0, z22_1⟩ := Sq.c2 BK192.out; obtain ⟨y22_0, y22_1⟩ := Sq.f2 BK192.out) | ((with_reducible refine gate_callee (f := 39) rfl ?_); refine goesL_ (some 20) rfl rfl Try.func39 (by kernel_rfl) rfl #[.agg #[.int .i64 a0_0, .int .i64 a0_1, .bool a0_2, .int .i64 a0_3, .int .i64 a0_4, .int .i64 a0_5, .bool a0_6, .int .i64 a0_7, .int .i64 a0_8], .agg #[.int .i64 t194, .int .i64 t195, .slice Ao19 t196.length co19, .int .i64 t199], .agg #[.int .i64 a1_0, .slice A1_1 l1_1.length c1_1]] rfl Sq.m ?_; (with_reducible refine (gimbalref9_good.calls k a0_0 a0_1 a0_2 a0_3 a0_4 a0_5 a0_6 a0_7 a0_8 t194 t195 _ _ t196 t199 a1_0 _ _ l1_1 true _ ?side1 ?side2 ?side3 ?side4 A4.out).mono ?_); (case side1 => refine (Kd.R_reads' (e := 5) (base := w.heap.size) (ok := fun k_ => True) (n := t196.length) (c := co19) ?_).2.2; exact (Sq.xR HO198.out BK201.out)); (case side2 => exact (Kd.R_reads' HO198.out).2.1); (case side3 => exact Kd.C_below HR1_1.out (Sq.w HB.out)); (case side4 => exact HC1_1.out); rintro e w23 ⟨rfl, hb⟩; refine ⟨_, rfl, ?_⟩; replace HO198 := Sq.yR HO198 BK201 hb; replace BK191 := Sq.sF BK191 hb; replace BK192 := Sq.sF BK192 hb; replace BK193 := Sq.sF BK193 hb; replace BK201 := Aside0.mk (blk_below (g := gb201) (o := .cells #[.int .i64 t194, .int .i64 t195, .slice Ao19 t196.length co19, .int .i64 t199] 31 (0, 0)) (Sq.B BK201.out) hb); replace HB := Sq.sw HB hb; (try clear hb); (try clear hb2); (try clear hk); (try clear hi); obtain ⟨z24_0, z24_1, z24_2, z24_3, z24_4, z24_5, z24_6, z24_7, z24_8⟩ := Sq.c9 BK191.out; obtain ⟨y24_0, y24_1, y24_2, y24_3, y24_4, y24_5, y24_6, y24_7, y24_8⟩ := Sq.f9 BK191.out; obtain ⟨z25_0, z25_1, z25_2, z25_3, z25_4, z25_5, z25_6, z25_7, z25_8⟩ := Sq.c9 BK193.out; obtain ⟨y25_0, y25_1, y25_2, y25_3, y25_4, y25_5, y25_6, y25_7, y25_8⟩ := Sq.f9 BK193.out))
   refine bodyPost_ret (results_ctt rfl _ _ gb193 24 #[.int .i64 a0_0, .int .i64 a0_1, .bool a0_2, .int .i64 a0_3, .int .i64 2, .int .i64 0, .bool a0_6, .int .i64 a0_7, .int .i64 a0_8] (0, 0) _ rfl (Sq.B BK193.out) Try.underlying24 rfl (by kernel_rfl)) rfl ?_
   exact ⟨_, by first | rfl | (simp [errW_none, errW_some] <;> rfl) | (simp [*, errW_none, errW_some] <;> rfl), by first | exact Kd.R_nil _ _ _ _ _ | exact Kd.N_nil _ _ _ _ _ | exact Kd.V_nil _ _ _ _ _ | exact Kd.Q_nil _ _ _ _ _ | exact Kd.S_nil _ _ _ _ _, Sq.w HB.out⟩
  ·rw [if_neg c6] at H
   have c6b0 : (a0_4 == 1) = false := beq_eq_false_iff_ne.mpr c6
   have c6b1 : (a0_4 != 1) = true := bne_iff_ne.mpr c6
   by_cases c26 : a0_4 = 2
   ·rw [if_pos c26] at H
    have c26b0 : (a0_4 == 2) = true := beq_iff_eq.mpr c26
    have c26b1 : (a0_4 != 2) = false := bne_eq_false_iff_eq.mpr c26
    clear c26
    simp only [Option.some.injEq, Prod.mk.injEq] at H
    obtain ⟨rfl, rfl, rfl, rfl, rfl, rfl, rfl, rfl, rfl, rfl, rfl⟩ := H
    go_enter Try.func23, Try.ntmps23
    go_wp2_with (first | ((with_reducible refine gate_dst (N := 2) rfl ?_); refine box_event ?hg (N := 2) ?hd (cs := #[.int .i64 a0_0, .int .i64 a0_1, .bool a0_2, .int .i64 a0_3, .int .i64 a0_4, .int .i64 a0_5, .bool a0_6, .int .i64 a0_7, .int .i64 a0_8]) (t := 24) ?hr ?_; (case hd => rfl); (case hg => rfl); (case hr => first | (go_simp; done) | (go_simp; rfl)); intro gb191 hg w27 hbox hb; have BK191 := Aside0.mk hbox; have GW191 := Sq.ge hg HB; have GE191 := Sq.ge hg HB; replace HB := Sq.sw HB hb; clear hb hbox hg) | ((with_reducible refine gate_dst (N := 3) rfl ?_); refine box_event ?hg (N := 3) ?hd (cs := #[.int .i64 a1_0, .slice A1_1 l1_1.length c1_1]) (t := 27) ?hr ?_; (case hd => rfl); (case hg => rfl); (case hr => first | (go_simp; done) | (go_simp; rfl)); intro gb192 hg w28 hbox hb; have BK192 := Aside0.mk hbox; have GW192 := Sq.ge hg HB; have GE192 := Sq.ge hg HB; obtain ⟨NB191_192, NB192_191⟩ := Sq.np hg BK191; replace BK191 := Sq.sb BK191 hb; replace HB := Sq.sw HB hb; clear hb hbox hg) | ((with_reducible refine gate_dst (N := 4) rfl ?_); refine box_event ?hg (N := 4) ?hd (cs := #[.int .i64 0, .int .i64 0, .bool false, .int .i64 0, .int .i64 0, .int .i64 0, .bool false, .int .i64 0, .int .i64 0]) (t := 24) ?hr ?_; (case hd => rfl); (case hg => rfl); (case hr => first | (go_simp; done) | (go_simp; rfl)); intro gb193 hg w29 hbox hb; have BK193 := Aside0.mk hbox; have GW193 := Sq.ge hg HB; have GE193 := Sq.ge hg HB; obtain ⟨NB191_193, NB193_191⟩ := Sq.np hg BK191; obtain ⟨NB192_193, NB193_192⟩ := Sq.np hg BK192; replace BK191 := Sq.sb BK191 hb; replace BK192 := Sq.sb BK192 hb; replace HB := Sq.sw HB hb; clear hb hbox hg; have b30 := NB191_192.out; have d30 := NB192_191.out; have b31 := NB191_193.out; have d31 := NB193_191.out; obtain ⟨z32_0, z32_1, z32_2, z32_3, z32_4, z32_5, z32_6, z32_7, z32_8⟩ := Sq.c9 BK191.out; obtain ⟨y32_0, y32_1, y32_2, y32_3, y32_4, y32_5, y32_6, y32_7, y32_8⟩ := Sq.f9 BK191.out) | ((with_reducible refine gate_callee (f := 22) rfl ?_); refine goesL_ (some 14) rfl rfl Try.func22 (by kernel_rfl) rfl #[.agg #[.int .i64 a0_0, .int .i64 a0_1, .bool a0_2, .int .i64 a0_3, .int .i64 a0_4, .int .i64 a0_5, .bool a0_6, .int .i64 a0_7, .int .i64 a0_8]] rfl Sq.m ?_; (with_reducible refine (gimbalref9_Next.calls a0_0 a0_1 a0_2 a0_3 a0_4 a0_5 a0_6 a0_7 a0_8 t194 t195 t196 t199 t200 _ A3.out).mono ?_); rintro e w33 ⟨v197, rfl, ho0, hb⟩; refine ⟨_, rfl, ?_⟩; have HO198 := Aside0.mk (Kd.R_lower ho0 (below_size (Sq.w HB.out))); replace BK191 := Sq.sb BK191 hb; replace BK192 := Sq.sb BK192 hb; replace BK193 := Sq.sb BK193 hb; replace HB := Sq.sw HB hb; (try clear hb); (try clear hb2); (try clear hk); (try clear hi); (try clear ho0)) | ((with_reducible refine gate_dst (N := 7) rfl ?_); refine box_event ?hg (N := 7) ?hd (cs := #[.int .i64 0, .int .i64 0, .slice none 0 0, .int .i64 0]) (t := 31) ?hr ?_; (case hd => rfl); (case hg => rfl); (case hr => first | (go_simp; done) | (go_simp; rfl)); intro gb201 hg w34 hbox hb; have BK201 := Aside0.mk hbox; have GW201 := Sq.ge hg HB; have GE201 := Sq.ge hg HB; obtain ⟨NB191_201, NB201_191⟩ := Sq.np hg BK191; obtain ⟨NB192_201, NB201_192⟩ := Sq.np hg BK192; obtain ⟨NB193_201, NB201_193⟩ := Sq.np hg BK193; replace HO198 := Sq.sR HO198 hb; replace BK191 := Sq.sb BK191 hb; replace BK192 := Sq.sb BK192 hb; replace BK193 := Sq.sb BK193 hb; replace HB := Sq.sw HB hb; clear hb hbox hg; have b35 := NB201_191.out; have d35 := NB191_201.out; have b36 := NB201_192.out; have d36 := NB192_201.out; have b37 := NB201_193.out; have d37 := NB193_201.out; obtain ⟨z38_0, z38_1, z38_2, z38_3⟩ := Sq.c4 BK201.out; obtain ⟨y38_0, y38_1, y38_2, y38_3⟩ := Sq.f4 BK201.out; obtain ⟨Ao39, co39, eo39⟩ := Kd.R_slice HO198.out; subst eo39; obtain ⟨z40_0, z40_1, z40_2, z40_3, z40_4, z40_5, z40_6, z40_7, z40_8⟩ := Sq.c9 BK191.out; obtain ⟨y40_0, y40_1, y40_2, y40_3, y40_4, y40_5, y40_6, y40_7, y40_8⟩ := Sq.f9 BK191.out; have b41 := NB192_193.out; have d41 := NB193_192.out; obtain ⟨z42_0, z42_1⟩ := Sq.c2 BK192.out; obtain ⟨y42_0, y42_1⟩ := Sq.f2 BK192.out) | ((with_reducible refine gate_callee (f := 39) rfl ?_); refine goesL_ (some 20) rfl rfl Try.func39 (by kernel_rfl) rfl #[.agg #[.int .i64 a0_0, .int .i64 a0_1, .bool a0_2, .int .i64 a0_3, .int .i64 a0_4, .int .i64 a0_5, .bool a0_6, .int .i64 a0_7, .int .i64 a0_8], .agg #[.int .i64 t194, .int .i64 t195, .slice Ao39 t196.length co39, .int .i64 t199], .agg #[.int .i64 a1_0, .slice A1_1 l1_1.length c1_1]] rfl Sq.m ?_; (with_reducible refine (gimbalref9_good.calls k a0_0 a0_1 a0_2 a0_3 a0_4 a0_5 a0_6 a0_7 a0_8 t194 t195 _ _ t196 t199 a1_0 _ _ l1_1 true _ ?side1 ?side2 ?side3 ?side4 A4.out).mono ?_); (case side1 => refine (Kd.R_reads' (e := 5) (base := w.heap.size) (ok := fun k_ => True) (n := t196.length) (c := co39) ?_).2.2; exact (Sq.xR HO198.out BK201.out)); (case side2 => exact (Kd.R_reads' HO198.out).2.1); (case side3 => exact Kd.C_below HR1_1.out (Sq.w HB.out)); (case side4 => exact HC1_1.out); rintro e w43 ⟨rfl, hb⟩; refine ⟨_, rfl, ?_⟩; replace HO198 := Sq.yR HO198 BK201 hb; replace BK191 := Sq.sF BK191 hb; replace BK192 := Sq.sF BK192 hb; replace BK193 := Sq.sF BK193 hb; replace BK201 := Aside0.mk (blk_below (g := gb201) (o := .cells #[.int .i64 t194, .int .i64 t195, .slice Ao39 t196.length co39, .int .i64 t199] 31 (0, 0)) (Sq.B BK201.out) hb); replace HB := Sq.sw HB hb; (try clear hb); (try clear hb2); (try clear hk); (try clear hi); obtain ⟨z44_0, z44_1, z44_2, z44_3, z44_4, z44_5, z44_6, z44_7, z44_8⟩ := Sq.c9 BK191.out; obtain ⟨y44_0, y44_1, y44_2, y44_3, y44_4, y44_5, y44_6, y44_7, y44_8⟩ := Sq.f9 BK191.out; obtain ⟨z45_0, z45_1, z45_2, z45_3, z45_4, z45_5, z45_6, z45_7, z45_8⟩ := Sq.c9 BK193.out; obtain ⟨y45_0, y45_1, y45_2, y45_3, y45_4, y45_5, y45_6, y45_7, y45_8⟩ := Sq.f9 BK193.out))
    refine bodyPost_ret (results_ctt rfl _ _ gb193 24 #[.int .i64 a0_0, .int .i64 a0_1, .bool a0_2, .int .i64 a0_3, .int .i64 3, .int .i64 0, .bool a0_6, .int .i64 a0_7, .int .i64 a0_8] (0, 0) _ rfl (Sq.B BK193.out) Try.underlying24 rfl (by kernel_rfl)) rfl ?_
    exact ⟨_, by first | rfl | (simp [errW_none, errW_some] <;> rfl) | (simp [*, errW_none, errW_some] <;> rfl), by first | exact Kd.R_nil _ _ _ _ _ | exact Kd.N_nil _ _ _ _ _ | exact Kd.V_nil _ _ _ _ _ | exact Kd.Q_nil _ _ _ _ _ | exact Kd.S_nil _ _ _ _ _, Sq.w HB.out⟩
   ·rw [if_neg c26] at H
    have c26b0 : (a0_4 == 2) = false := beq_eq_false_iff_ne.mpr c26
    have c26b1 : (a0_4 != 2) = true := bne_iff_ne.mpr c26
    by_cases c46 : a0_4 = 3
    ·rw [if_pos c46] at H
     have c46b0 : (a0_4 == 3) = true := beq_iff_eq.mpr c46
     have c46b1 : (a0_4 != 3) = false := bne_eq_false_iff_eq.mpr c46
     clear c46
     simp only [Option.some.injEq, Prod.mk.injEq] at H
     obtain ⟨rfl, rfl, rfl, rfl, rfl, rfl, rfl, rfl, rfl, rfl, rfl⟩ := H
     go_enter Try.func23, Try.ntmps23
     go_wp2_with (first | ((with_reducible refine gate_dst (N := 2) rfl ?_); refine box_event ?hg (N := 2) ?hd (cs := #[.int .i64 a0_0, .int .i64 a0_1, .bool a0_2, .int .i64 a0_3, .int .i64 a0_4, .int .i64 a0_5, .bool a0_6, .int .i64 a0_7, .int .i64 a0_8]) (t := 24) ?hr ?_; (case hd => rfl); (case hg => rfl); (case hr => first | (go_simp; done) | (go_simp; rfl)); intro gb191 hg w47 hbox hb; have BK191 := Aside0.mk hbox; have GW191 := Sq.ge hg HB; have GE191 := Sq.ge hg HB; replace HB := Sq.sw HB hb; clear hb hbox hg) | ((with_reducible refine gate_dst (N := 3) rfl ?_); refine box_event ?hg (N := 3) ?hd (cs := #[.int .i64 a1_0, .slice A1_1 l1_1.length c1_1]) (t := 27) ?hr ?_; (case hd => rfl); (case hg => rfl); (case hr => first | (go_simp; done) | (go_simp; rfl)); intro gb192 hg w48 hbox hb; have BK192 := Aside0.mk hbox; have GW192 := Sq.ge hg HB; have GE192 := Sq.ge hg HB; obtain ⟨NB191_192, NB192_191⟩ := Sq.np hg BK191; replace BK191 := Sq.sb BK191 hb; replace HB := Sq.sw HB hb; clear hb hbox hg) | ((with_reducible refine gate_dst (N := 4) rfl ?_); refine box_event ?hg (N := 4) ?hd (cs := #[.int .i64 0, .int .i64 0, .bool false, .int .i64 0, .int .i64 0, .int .i64 0, .bool false, .int .i64 0, .int .i64 0]) (t := 24) ?hr ?_; (case hd => rfl); (case hg => rfl); (case hr => first | (go_simp; done) | (go_simp; rfl)); intro gb193 hg w49 hbox hb; have BK193 := Aside0.mk hbox; have GW193 := Sq.ge hg HB; have GE193 := Sq.ge hg HB; obtain ⟨NB191_193, NB193_191⟩ := Sq.np hg BK191; obtain ⟨NB192_193, NB193_192⟩ := Sq.np hg BK192; replace BK191 := Sq.sb BK191 hb; replace BK192 := Sq.sb BK192 hb; replace HB := Sq.sw HB hb; clear hb hbox hg; have b50 := NB191_192.out; have d50 := NB192_191.out; have b51 := NB191_193.out; have d51 := NB193_191.out; obtain ⟨z52_0, z52_1, z52_2, z52_3, z52_4, z52_5, z52_6, z52_7, z52_8⟩ := Sq.c9 BK191.out; obtain ⟨y52_0, y52_1, y52_2, y52_3, y52_4, y52_5, y52_6, y52_7, y52_8⟩ := Sq.f9 BK191.out) | ((with_reducible refine gate_callee (f := 22) rfl ?_); refine goesL_ (some 14) rfl rfl Try.func22 (by kernel_rfl) rfl #[.agg #[.int .i64 a0_0, .int .i64 a0_1, .bool a0_2, .int .i64 a0_3, .int .i64 a0_4, .int .i64 a0_5, .bool a0_6, .int .i64 a0_7, .int .i64 a0_8]] rfl Sq.m ?_; (with_reducible refine (gimbalref9_Next.calls a0_0 a0_1 a0_2 a0_3 a0_4 a0_5 a0_6 a0_7 a0_8 t194 t195 t196 t199 t200 _ A3.out).mono ?_); rintro e w53 ⟨v197, rfl, ho0, hb⟩; refine ⟨_, rfl, ?_⟩; have HO198 := Aside0.mk (Kd.R_lower ho0 (below_size (Sq.w HB.out))); replace BK191 := Sq.sb BK191 hb; replace BK192 := Sq.sb BK192 hb; replace BK193 := Sq.sb BK193 hb; replace HB := Sq.sw HB hb; (try clear hb); (try clear hb2); (try clear hk); (try clear hi); (try clear ho0)) | ((with_reducible refine gate_dst (N := 7) rfl ?_); refine box_event ?hg (N := 7) ?hd (cs := #[.int .i64 0, .int .i64 0, .slice none 0 0, .int .i64 0]) (t := 31) ?hr ?_; (case hd => rfl); (case hg => rfl); (case hr => first | (go_simp; done) | (go_simp; rfl)); intro gb201 hg w54 hbox hb; have BK201 := Aside0.mk hbox; have GW201 := Sq.ge hg HB; have GE201 := Sq.ge hg HB; obtain ⟨NB191_201, NB201_191⟩ := Sq.np hg BK191; obtain ⟨NB192_201, NB201_192⟩ := Sq.np hg BK192; obtain ⟨NB193_201, NB201_193⟩ := Sq.np hg BK193; replace HO198 := Sq.sR HO198 hb; replace BK191 := Sq.sb BK191 hb; replace BK192 := Sq.sb BK192 hb; replace BK193 := Sq.sb BK193 hb; replace HB := Sq.sw HB hb; clear hb hbox hg; have b55 := NB201_191.out; have d55 := NB191_201.out; have b56 := NB201_192.out; have d56 := NB192_201.out; have b57 := NB201_193.out; have d57 := NB193_201.out; obtain ⟨z58_0, z58_1, z58_2, z58_3⟩ := Sq.c4 BK201.out; obtain ⟨y58_0, y58_1, y58_2, y58_3⟩ := Sq.f4 BK201.out; obtain ⟨Ao59, co59, eo59⟩ := Kd.R_slice HO198.out; subst eo59; obtain ⟨z60_0, z60_1, z60_2, z60_3, z60_4, z60_5, z60_6, z60_7, z60_8⟩ := Sq.c9 BK191.out; obtain ⟨y60_0, y60_1, y60_2, y60_3, y60_4, y60_5, y60_6, y60_7, y60_8⟩ := Sq.f9 BK191.out; have b61 := NB192_193.out; have d61 := NB193_192.out; obtain ⟨z62_0, z62_1⟩ := Sq.c2 BK192.out; obtain ⟨y62_0, y62_1⟩ := Sq.f2 BK192.out) | ((with_reducible refine gate_callee (f := 39) rfl ?_); refine goesL_ (some 20) rfl rfl Try.func39 (by kernel_rfl) rfl #[.agg #[.int .i64 a0_0, .int .i64 a0_1, .bool a0_2, .int .i64 a0_3, .int .i64 a0_4, .int .i64 a0_5, .bool a0_6, .int .i64 a0_7, .int .i64 a0_8], .agg #[.int .i64 t194, .int .i64 t195, .slice Ao59 t196.length co59, .int .i64 t199], .agg #[.int .i64 a1_0, .slice A1_1 l1_1.length c1_1]] rfl Sq.m ?_; (with_reducible refine (gimbalref9_good.calls k a0_0 a0_1 a0_2 a0_3 a0_4 a0_5 a0_6 a0_7 a0_8 t194 t195 _ _ t196 t199 a1_0 _ _ l1_1 true _ ?side1 ?side2 ?side3 ?side4 A4.out).mono ?_); (case side1 => refine (Kd.R_reads' (e := 5) (base := w.heap.size) (ok := fun k_ => True) (n := t196.length) (c := co59) ?_).2.2; exact (Sq.xR HO198.out BK201.out)); (case side2 => exact (Kd.R_reads' HO198.out).2.1); (case side3 => exact Kd.C_below HR1_1.out (Sq.w HB.out)); (case side4 => exact HC1_1.out); rintro e w63 ⟨rfl, hb⟩; refine ⟨_, rfl, ?_⟩; replace HO198 := Sq.yR HO198 BK201 hb; replace BK191 := Sq.sF BK191 hb; replace BK192 := Sq.sF BK192 hb; replace BK193 := Sq.sF BK193 hb; replace BK201 := Aside0.mk (blk_below (g := gb201) (o := .cells #[.int .i64 t194, .int .i64 t195, .slice Ao59 t196.length co59, .int .i64 t199] 31 (0, 0)) (Sq.B BK201.out) hb); replace HB := Sq.sw HB hb; (try clear hb); (try clear hb2); (try clear hk); (try clear hi); obtain ⟨z64_0, z64_1, z64_2, z64_3, z64_4, z64_5, z64_6, z64_7, z64_8⟩ := Sq.c9 BK191.out; obtain ⟨y64_0, y64_1, y64_2, y64_3, y64_4, y64_5, y64_6, y64_7, y64_8⟩ := Sq.f9 BK191.out; obtain ⟨z65_0, z65_1, z65_2, z65_3, z65_4, z65_5, z65_6, z65_7, z65_8⟩ := Sq.c9 BK193.out; obtain ⟨y65_0, y65_1, y65_2, y65_3, y65_4, y65_5, y65_6, y65_7, y65_8⟩ := Sq.f9 BK193.out))
     refine bodyPost_ret (results_ctt rfl _ _ gb193 24 #[.int .i64 a0_0, .int .i64 a0_1, .bool a0_2, .int .i64 a0_3, .int .i64 4, .int .i64 0, .bool false, .int .i64 a0_7, .int .i64 a0_8] (0, 0) _ rfl (Sq.B BK193.out) Try.underlying24 rfl (by kernel_rfl)) rfl ?_
     exact ⟨_, by first | rfl | (simp [errW_none, errW_some] <;> rfl) | (simp [*, errW_none, errW_some] <;> rfl), by first | exact Kd.R_nil _ _ _ _ _ | exact Kd.N_nil _ _ _ _ _ | exact Kd.V_nil _ _ _ _ _ | exact Kd.Q_nil _ _ _ _ _ | exact Kd.S_nil _ _ _ _ _, Sq.w HB.out⟩
    ·rw [if_neg c46] at H
     have c46b0 : (a0_4 == 3) = false := beq_eq_false_iff_ne.mpr c46
     have c46b1 : (a0_4 != 3) = true := bne_iff_ne.mpr c46
     by_cases c66 : a0_4 = 4
     ·rw [if_pos c66] at H
      have c66b0 : (a0_4 == 4) = true := beq_iff_eq.mpr c66
      have c66b1 : (a0_4 != 4) = false := bne_eq_false_iff_eq.mpr c66
      clear c66
      by_cases c67 : 0 < (l1_1.length : Int)
      ·rw [if_pos c67] at H
       have c67b0 : decide (0 < (l1_1.length : Int)) = true := decide_eq_true c67
       have c67b1 : decide (0 < l1_1.length) = true := decide_eq_true (by omega)
       clear c67
       by_cases c68 : (rd l1_1 0) > 0
       ·rw [if_pos c68] at H
        have c68b0 : decide (0 < (rd l1_1 0)) = true := decide_eq_true c68
        clear c68
        simp only [Option.some.injEq, Prod.mk.injEq] at H
        obtain ⟨rfl, rfl, rfl, rfl, rfl, rfl, rfl, rfl, rfl, rfl, rfl⟩ := H
        go_enter Try.func23, Try.ntmps23
        go_wp2_with (first | ((with_reducible refine gate_dst (N := 2) rfl ?_); refine box_event ?hg (N := 2) ?hd (cs := #[.int .i64 a0_0, .int .i64 a0_1, .bool a0_2, .int .i64 a0_3, .int .i64 a0_4, .int .i64 a0_5, .bool a0_6, .int .i64 a0_7, .int .i64 a0_8]) (t := 24) ?hr ?_; (case hd => rfl); (case hg => rfl); (case hr => first | (go_simp; done) | (go_simp; rfl)); intro gb191 hg w69 hbox hb; have BK191 := Aside0.mk hbox; have GW191 := Sq.ge hg HB; have GE191 := Sq.ge hg HB; replace HB := Sq.sw HB hb; clear hb hbox hg) | ((with_reducible refine gate_dst (N := 3) rfl ?_); refine box_event ?hg (N := 3) ?hd (cs := #[.int .i64 a1_0, .slice A1_1 l1_1.length c1_1]) (t := 27) ?hr ?_; (case hd => rfl); (case hg => rfl); (case hr => first | (go_simp; done) | (go_simp; rfl)); intro gb192 hg w70 hbox hb; have BK192 := Aside0.mk hbox; have GW192 := Sq.ge hg HB; have GE192 := Sq.ge hg HB; obtain ⟨NB191_192, NB192_191⟩ := Sq.np hg BK191; replace BK191 := Sq.sb BK191 hb; replace HB := Sq.sw HB hb; clear hb hbox hg) | ((with_reducible refine gate_dst (N := 4) rfl ?_); refine box_event ?hg (N := 4) ?hd (cs := #[.int .i64 0, .int .i64 0, .bool false, .int .i64 0, .int .i64 0, .int .i64 0, .bool false, .int .i64 0, .int .i64 0]) (t := 24) ?hr ?_; (case hd => rfl); (case hg => rfl); (case hr => first | (go_simp; done) | (go_simp; rfl)); intro gb193 hg w71 hbox hb; have BK193 := Aside0.mk hbox; have GW193 := Sq.ge hg HB; have GE193 := Sq.ge hg HB; obtain ⟨NB191_193, NB193_191⟩ := Sq.np hg BK191; obtain ⟨NB192_193, NB193_192⟩ := Sq.np hg BK192; replace BK191 := Sq.sb BK191 hb; replace BK192 := Sq.sb BK192 hb; replace HB := Sq.sw HB hb; clear hb hbox hg; have b72 := NB191_192.out; have d72 := NB192_191.out; have b73 := NB191_193.out; have d73 := NB193_191.out; obtain ⟨z74_0, z74_1, z74_2, z74_3, z74_4, z74_5, z74_6, z74_7, z74_8⟩ := Sq.c9 BK191.out; obtain ⟨y74_0, y74_1, y74_2, y74_3, y74_4, y74_5, y74_6, y74_7, y74_8⟩ := Sq.f9 BK191.out) | ((with_reducible refine gate_callee (f := 22) rfl ?_); refine goesL_ (some 14) rfl rfl Try.func22 (by kernel_rfl) rfl #[.agg #[.int .i64 a0_0, .int .i64 a0_1, .bool a0_2, .int .i64 a0_3, .int .i64 a0_4, .int .i64 a0_5, .bool a0_6, .int .i64 a0_7, .int .i64 a0_8]] rfl Sq.m ?_; (with_reducible refine (gimbalref9_Next.calls a0_0 a0_1 a0_2 a0_3 a0_4 a0_5 a0_6 a0_7 a0_8 t194 t195 t196 t199 t200 _ A3.out).mono ?_); rintro e w75 ⟨v197, rfl, ho0, hb⟩; refine ⟨_, rfl, ?_⟩; have HO198 := Aside0.mk (Kd.R_lower ho0 (below_size (Sq.w HB.out))); replace BK191 := Sq.sb BK191 hb; replace BK192 := Sq.sb BK192 hb; replace BK193 := Sq.sb BK193 hb; replace HB := Sq.sw HB hb; (try clear hb); (try clear hb2); (try clear hk); (try clear hi); (try clear ho0)) | ((with_reducible refine gate_dst (N := 7) rfl ?_); refine box_event ?hg (N := 7) ?hd (cs := #[.int .i64 0, .int .i64 0, .slice none 0 0, .int .i64 0]) (t := 31) ?hr ?_; (case hd => rfl); (case hg => rfl); (case hr => first | (go_simp; done) | (go_simp; rfl)); intro gb201 hg w76 hbox hb; have BK201 := Aside0.mk hbox; have GW201 := Sq.ge hg HB; have GE201 := Sq.ge hg HB; obtain ⟨NB191_201, NB201_191⟩ := Sq.np hg BK191; obtain ⟨NB192_201, NB201_192⟩ := Sq.np hg BK192; obtain ⟨NB193_201, NB201_193⟩ := Sq.np hg BK193; replace HO198 := Sq.sR HO198 hb; replace BK191 := Sq.sb BK191 hb; replace BK192 := Sq.sb BK192 hb; replace BK193 := Sq.sb BK193 hb; replace HB := Sq.sw HB hb; clear hb hbox hg; have b77 := NB201_191.out; have d77 := NB191_201.out; have b78 := NB201_192.out; have d78 := NB192_201.out; have b79 := NB201_193.out; have d79 := NB193_201.out; obtain ⟨z80_0, z80_1, z80_2, z80_3⟩ := Sq.c4 BK201.out; obtain ⟨y80_0, y80_1, y80_2, y80_3⟩ := Sq.f4 BK201.out; obtain ⟨Ao81, co81, eo81⟩ := Kd.R_slice HO198.out; subst eo81; obtain ⟨z82_0, z82_1, z82_2, z82_3, z82_4, z82_5, z82_6, z82_7, z82_8⟩ := Sq.c9 BK191.out; obtain ⟨y82_0, y82_1, y82_2, y82_3, y82_4, y82_5, y82_6, y82_7, y82_8⟩ := Sq.f9 BK191.out; have b83 := NB192_193.out; have d83 := NB193_192.out; obtain ⟨z84_0, z84_1⟩ := Sq.c2 BK192.out; obtain ⟨y84_0, y84_1⟩ := Sq.f2 BK192.out) | ((with_reducible refine gate_callee (f := 39) rfl ?_); refine goesL_ (some 20) rfl rfl Try.func39 (by kernel_rfl) rfl #[.agg #[.int .i64 a0_0, .int .i64 a0_1, .bool a0_2, .int .i64 a0_3, .int .i64 a0_4, .int .i64 a0_5, .bool a0_6, .int .i64 a0_7, .int .i64 a0_8], .agg #[.int .i64 t194, .int .i64 t195, .slice Ao81 t196.length co81, .int .i64 t199], .agg #[.int .i64 a1_0, .slice A1_1 l1_1.length c1_1]] rfl Sq.m ?_; (with_reducible refine (gimbalref9_good.calls k a0_0 a0_1 a0_2 a0_3 a0_4 a0_5 a0_6 a0_7 a0_8 t194 t195 _ _ t196 t199 a1_0 _ _ l1_1 true _ ?side1 ?side2 ?side3 ?side4 A4.out).mono ?_); (case side1 => refine (Kd.R_reads' (e := 5) (base := w.heap.size) (ok := fun k_ => True) (n := t196.length) (c := co81) ?_).2.2; exact (Sq.xR HO198.out BK201.out)); (case side2 => exact (Kd.R_reads' HO198.out).2.1); (case side3 => exact Kd.C_below HR1_1.out (Sq.w HB.out)); (case side4 => exact HC1_1.out); rintro e w85 ⟨rfl, hb⟩; refine ⟨_, rfl, ?_⟩; replace HO198 := Sq.yR HO198 BK201 hb; replace BK191 := Sq.sF BK191 hb; replace BK192 := Sq.sF BK192 hb; replace BK193 := Sq.sF BK193 hb; replace BK201 := Aside0.mk (blk_below (g := gb201) (o := .cells #[.int .i64 t194, .int .i64 t195, .slice Ao81 t196.length co81, .int .i64 t199] 31 (0, 0)) (Sq.B BK201.out) hb); replace HB := Sq.sw HB hb; (try clear hb); (try clear hb2); (try clear hk); (try clear hi); obtain ⟨z86_0, z86_1, z86_2, z86_3, z86_4, z86_5, z86_6, z86_7, z86_8⟩ := Sq.c9 BK191.out; obtain ⟨y86_0, y86_1, y86_2, y86_3, y86_4, y86_5, y86_6, y86_7, y86_8⟩ := Sq.f9 BK191.out; obtain ⟨z87_0, z87_1⟩ := Sq.c2 BK192.out; obtain ⟨y87_0, y87_1⟩ := Sq.f2 BK192.out; have p216 : 0 ≤ (0 : Int) := (by omega); have q216 : 0 < (l1_1.length : Int) := of_decide_eq_true (by first | (with_reducible assumption) | assumption); obtain ⟨ad216, e216, hx216_0⟩ := Kd.at_int HR1_1.out 0 p216 q216; cases e216; have qi216 : (0 < l1_1.length) = True := eq_true (by omega); (try rw [show ((0 : Int)).toNat = 0 from rfl] at hx216_0); (try rw [Addr.add_zero'] at hx216_0); have hn216_0 : ad216.block ≠ gb191 := Nat.ne_of_lt (Nat.lt_of_lt_of_le (by have := World.block_lt_of_cell? _ _ hx216_0; first | rwa [add_block] at this | exact this) GW191.out); replace hx216_0 := (HB.out.cell (World.block_lt_of_cell? w _ hx216_0)).trans hx216_0; replace hx216_0 := (cell_far (p := ⟨gb191, 5, none⟩) (by first | (rw [add_block]; exact hn216_0) | (show (Addr.add _ _).block ≠ _; rw [add_block]; exact hn216_0) | exact hn216_0) (.int .i64 0)).trans hx216_0; clear hn216_0; replace p216 := eq_true p216; replace q216 := eq_true q216; have p217 : 0 ≤ (0 : Int) := (by omega); have q217 : 0 < (l1_1.length : Int) := of_decide_eq_true (by first | (with_reducible assumption) | assumption); obtain ⟨ad217, e217, hx217_0⟩ := Kd.at_int HR1_1.out 0 p217 q217; obtain rfl : ad216 = ad217 := (by injection e217); have qi217 : (0 < l1_1.length) = True := eq_true (by omega); (try rw [show ((0 : Int)).toNat = 0 from rfl] at hx217_0); (try rw [Addr.add_zero'] at hx217_0); have hn217_0 : ad216.block ≠ gb191 := Nat.ne_of_lt (Nat.lt_of_lt_of_le (by have := World.block_lt_of_cell? _ _ hx217_0; first | rwa [add_block] at this | exact this) GW191.out); have hn217_1 : ad216.block ≠ gb191 := Nat.ne_of_lt (Nat.lt_of_lt_of_le (by have := World.block_lt_of_cell? _ _ hx217_0; first | rwa [add_block] at this | exact this) GW191.out); replace hx217_0 := (HB.out.cell (World.block_lt_of_cell? w _ hx217_0)).trans hx217_0; replace hx217_0 := (cell_far (p := ⟨gb191, 5, none⟩) (by first | (rw [add_block]; exact hn217_0) | (show (Addr.add _ _).block ≠ _; rw [add_block]; exact hn217_0) | exact hn217_0) (.int .i64 0)).trans hx217_0; replace hx217_0 := (cell_far (p := ⟨gb191, 4, none⟩) (by first | (rw [add_block]; exact hn217_1) | (show (Addr.add _ _).block ≠ _; rw [add_block]; exact hn217_1) | exact hn217_1) (.int .i64 5)).trans hx217_0; clear hn217_0; clear hn217_1; replace p217 := eq_true p217; replace q217 := eq_true q217; obtain ⟨z88_0, z88_1, z88_2, z88_3, z88_4, z88_5, z88_6, z88_7, z88_8⟩ := Sq.c9 BK193.out; obtain ⟨y88_0, y88_1, y88_2, y88_3, y88_4, y88_5, y88_6, y88_7, y88_8⟩ := Sq.f9 BK193.out))
        refine bodyPost_ret (results_ctt rfl _ _ gb193 24 #[.int .i64 a0_0, .int .i64 a0_1, .bool a0_2, .int .i64 a0_3, .int .i64 5, .int .i64 0, .bool a0_6, .int .i64 (wrap64 (rd l1_1 0)), .int .i64 a0_8] (0, 0) _ rfl (Sq.B BK193.out) Try.underlying24 rfl (by kernel_rfl)) rfl ?_
        exact ⟨_, by first | rfl | (simp [errW_none, errW_some] <;> rfl) | (simp [*, errW_none, errW_some] <;> rfl), by first | exact Kd.R_nil _ _ _ _ _ | exact Kd.N_nil _ _ _ _ _ | exact Kd.V_nil _ _ _ _ _ | exact Kd.Q_nil _ _ _ _ _ | exact Kd.S_nil _ _ _ _ _, Sq.w HB.out⟩
       ·rw [if_neg c68] at H
        have c68b0 : decide (0 < (rd l1_1 0)) = false := decide_eq_false c68
        clear c68
        simp only [Option.some.injEq, Prod.mk.injEq] at H
        obtain ⟨rfl, rfl, rfl, rfl, rfl, rfl, rfl, rfl, rfl, rfl, rfl⟩ := H
        go_enter Try.func23, Try.ntmps23
        go_wp2_with (first | ((with_reducible refine gate_dst (N := 2) rfl ?_); refine box_event ?hg (N := 2) ?hd (cs := #[.int .i64 a0_0, .int .i64 a0_1, .bool a0_2, .int .i64 a0_3, .int .i64 a0_4, .int .i64 a0_5, .bool a0_6, .int .i64 a0_7, .int .i64 a0_8]) (t := 24) ?hr ?_; (case hd => rfl); (case hg => rfl); (case hr => first | (go_simp; done) | (go_simp; rfl)); intro gb191 hg w89 hbox hb; have BK191 := Aside0.mk hbox; have GW191 := Sq.ge hg HB; have GE191 := Sq.ge hg HB; replace HB := Sq.sw HB hb; clear hb hbox hg) | ((with_reducible refine gate_dst (N := 3) rfl ?_); refine box_event ?hg (N := 3) ?hd (cs := #[.int .i64 a1_0, .slice A1_1 l1_1.length c1_1]) (t := 27) ?hr ?_; (case hd => rfl); (case hg => rfl); (case hr => first | (go_simp; done) | (go_simp; rfl)); intro gb192 hg w90 hbox hb; have BK192 := Aside0.mk hbox; have GW192 := Sq.ge hg HB; have GE192 := Sq.ge hg HB; obtain ⟨NB191_192, NB192_191⟩ := Sq.np hg BK191; replace BK191 := Sq.sb BK191 hb; replace HB := Sq.sw HB hb; clear hb hbox hg) | ((with_reducible refine gate_dst (N := 4) rfl ?_); refine box_event ?hg (N := 4) ?hd (cs := #[.int .i64 0, .int .i64 0, .bool false, .int .i64 0, .int .i64 0, .int .i64 0, .bool false, .int .i64 0, .int .i64 0]) (t := 24) ?hr ?_; (case hd => rfl); (case hg => rfl); (case hr => first | (go_simp; done) | (go_simp; rfl)); intro gb193 hg w91 hbox hb; have BK193 := Aside0.mk hbox; have GW193 := Sq.ge hg HB; have GE193 := Sq.ge hg HB; obtain ⟨NB191_193, NB193_191⟩ := Sq.np hg BK191; obtain ⟨NB192_193, NB193_192⟩ := Sq.np hg BK192; replace BK191 := Sq.sb BK191 hb; replace BK192 := Sq.sb BK192 hb; replace HB := Sq.sw HB hb; clear hb hbox hg; have b92 := NB191_192.out; have d92 := NB192_191.out; have b93 := NB191_193.out; have d93 := NB193_191.out; obtain ⟨z94_0, z94_1, z94_2, z94_3, z94_4, z94_5, z94_6, z94_7, z94_8⟩ := Sq.c9 BK191.out; obtain ⟨y94_0, y94_1, y94_2, y94_3, y94_4, y94_5, y94_6, y94_7, y94_8⟩ := Sq.f9 BK191.out) | ((with_reducible refine gate_callee (f := 22) rfl ?_); refine goesL_ (some 14) rfl rfl Try.func22 (by kernel_rfl) rfl #[.agg #[.int .i64 a0_0, .int .i64 a0_1, .bool a0_2, .int .i64 a0_3, .int .i64 a0_4, .int .i64 a0_5, .bool a0_6, .int .i64 a0_7, .int .i64 a0_8]] rfl Sq.m ?_; (with_reducible refine (gimbalref9_Next.calls a0_0 a0_1 a0_2 a0_3 a0_4 a0_5 a0_6 a0_7 a0_8 t194 t195 t196 t199 t200 _ A3.out).mono ?_); rintro e w95 ⟨v197, rfl, ho0, hb⟩; refine ⟨_, rfl, ?_⟩; have HO198 := Aside0.mk (Kd.R_lower ho0 (below_size (Sq.w HB.out))); replace BK191 := Sq.sb BK191 hb; replace BK192 := Sq.sb BK192 hb; replace BK193 := Sq.sb BK193 hb; replace HB := Sq.sw HB hb; (try clear hb); (try clear hb2); (try clear hk); (try clear hi); (try clear ho0)) | ((with_reducible refine gate_dst (N := 7) rfl ?_); refine box_event ?hg (N := 7) ?hd (cs := #[.int .i64 0, .int .i64 0, .slice none 0 0, .int .i64 0]) (t := 31) ?hr ?_; (case hd => rfl); (case hg => rfl); (case hr => first | (go_simp; done) | (go_simp; rfl)); intro gb201 hg w96 hbox hb; have BK201 := Aside0.mk hbox; have GW201 := Sq.ge hg HB; have GE201 := Sq.ge hg HB; obtain ⟨NB191_201, NB201_191⟩ := Sq.np hg BK191; obtain ⟨NB192_201, NB201_192⟩ := Sq.np hg BK192; obtain ⟨NB193_201, NB201_193⟩ := Sq.np hg BK193; replace HO198 := Sq.sR HO198 hb; replace BK191 := Sq.sb BK191 hb; replace BK192 := Sq.sb BK192 hb; replace BK193 := Sq.sb BK193 hb; replace HB := Sq.sw HB hb; clear hb hbox hg; have b97 := NB201_191.out; have d97 := NB191_201.out; have b98 := NB201_192.out; have d98 := NB192_201.out; have b99 := NB201_193.out; have d99 := NB193_201.out; obtain ⟨z100_0, z100_1, z100_2, z100_3⟩ := Sq.c4 BK201.out; obtain ⟨y100_0, y100_1, y100_2, y100_3⟩ := Sq.f4 BK201.out; obtain ⟨Ao101, co101, eo101⟩ := Kd.R_slice HO198.out; subst eo101; obtain ⟨z102_0, z102_1, z102_2, z102_3, z102_4, z102_5, z102_6, z102_7, z102_8⟩ := Sq.c9 BK191.out; obtain ⟨y102_0, y102_1, y102_2, y102_3, y102_4, y102_5, y102_6, y102_7, y102_8⟩ := Sq.f9 BK191.out; have b103 := NB192_193.out; have d103 := NB193_192.out; obtain ⟨z104_0, z104_1⟩ := Sq.c2 BK192.out; obtain ⟨y104_0, y104_1⟩ := Sq.f2 BK192.out) | ((with_reducible refine gate_callee (f := 39) rfl ?_); refine goesL_ (some 20) rfl rfl Try.func39 (by kernel_rfl) rfl #[.agg #[.int .i64 a0_0, .int .i64 a0_1, .bool a0_2, .int .i64 a0_3, .int .i64 a0_4, .int .i64 a0_5, .bool a0_6, .int .i64 a0_7, .int .i64 a0_8], .agg #[.int .i64 t194, .int .i64 t195, .slice Ao101 t196.length co101, .int .i64 t199], .agg #[.int .i64 a1_0, .slice A1_1 l1_1.length c1_1]] rfl Sq.m ?_; (with_reducible refine (gimbalref9_good.calls k a0_0 a0_1 a0_2 a0_3 a0_4 a0_5 a0_6 a0_7 a0_8 t194 t195 _ _ t196 t199 a1_0 _ _ l1_1 true _ ?side1 ?side2 ?side3 ?side4 A4.out).mono ?_); (case side1 => refine (Kd.R_reads' (e := 5) (base := w.heap.size) (ok := fun k_ => True) (n := t196.length) (c := co101) ?_).2.2; exact (Sq.xR HO198.out BK201.out)); (case side2 => exact (Kd.R_reads' HO198.out).2.1); (case side3 => exact Kd.C_below HR1_1.out (Sq.w HB.out)); (case side4 => exact HC1_1.out); rintro e w105 ⟨rfl, hb⟩; refine ⟨_, rfl, ?_⟩; replace HO198 := Sq.yR HO198 BK201 hb; replace BK191 := Sq.sF BK191 hb; replace BK192 := Sq.sF BK192 hb; replace BK193 := Sq.sF BK193 hb; replace BK201 := Aside0.mk (blk_below (g := gb201) (o := .cells #[.int .i64 t194, .int .i64 t195, .slice Ao101 t196.length co101, .int .i64 t199] 31 (0, 0)) (Sq.B BK201.out) hb); replace HB := Sq.sw HB hb; (try clear hb); (try clear hb2); (try clear hk); (try clear hi); obtain ⟨z106_0, z106_1, z106_2, z106_3, z106_4, z106_5, z106_6, z106_7, z106_8⟩ := Sq.c9 BK191.out; obtain ⟨y106_0, y106_1, y106_2, y106_3, y106_4, y106_5, y106_6, y106_7, y106_8⟩ := Sq.f9 BK191.out; obtain ⟨z107_0, z107_1⟩ := Sq.c2 BK192.out; obtain ⟨y107_0, y107_1⟩ := Sq.f2 BK192.out; have p216 : 0 ≤ (0 : Int) := (by omega); have q216 : 0 < (l1_1.length : Int) := of_decide_eq_true (by first | (with_reducible assumption) | assumption); obtain ⟨ad216, e216, hx216_0⟩ := Kd.at_int HR1_1.out 0 p216 q216; cases e216; have qi216 : (0 < l1_1.length) = True := eq_true (by omega); (try rw [show ((0 : Int)).toNat = 0 from rfl] at hx216_0); (try rw [Addr.add_zero'] at hx216_0); have hn216_0 : ad216.block ≠ gb191 := Nat.ne_of_lt (Nat.lt_of_lt_of_le (by have := World.block_lt_of_cell? _ _ hx216_0; first | rwa [add_block] at this | exact this) GW191.out); replace hx216_0 := (HB.out.cell (World.block_lt_of_cell? w _ hx216_0)).trans hx216_0; replace hx216_0 := (cell_far (p := ⟨gb191, 5, none⟩) (by first | (rw [add_block]; exact hn216_0) | (show (Addr.add _ _).block ≠ _; rw [add_block]; exact hn216_0) | exact hn216_0) (.int .i64 0)).trans hx216_0; clear hn216_0; replace p216 := eq_true p216; replace q216 := eq_true q216; obtain ⟨z108_0, z108_1, z108_2, z108_3, z108_4, z108_5, z108_6, z108_7, z108_8⟩ := Sq.c9 BK193.out; obtain ⟨y108_0, y108_1, y108_2, y108_3, y108_4, y108_5, y108_6, y108_7, y108_8⟩ := Sq.f9 BK193.out))
        refine bodyPost_ret (results_ctt rfl _ _ gb193 24 #[.int .i64 a0_0, .int .i64 a0_1, .bool a0_2, .int .i64 a0_3, .int .i64 a0_4, .int .i64 0, .bool a0_6, .int .i64 a0_7, .int .i64 a0_8] (0, 0) _ rfl (Sq.B BK193.out) Try.underlying24 rfl (by kernel_rfl)) rfl ?_
        exact ⟨_, by first | rfl | (simp [errW_none, errW_some] <;> rfl) | (simp [*, errW_none, errW_some] <;> rfl), by first | exact Kd.R_nil _ _ _ _ _ | exact Kd.N_nil _ _ _ _ _ | exact Kd.V_nil _ _ _ _ _ | exact Kd.Q_nil _ _ _ _ _ | exact Kd.S_nil _ _ _ _ _, Sq.w HB.out⟩
      ·rw [if_neg c67] at H
       exact absurd H (by simp)
     ·rw [if_neg c66] at H
      have c66b0 : (a0_4 == 4) = false := beq_eq_false_iff_ne.mpr c66
      have c66b1 : (a0_4 != 4) = true := bne_iff_ne.mpr c66
      by_cases c109 : a0_4 = 5
      ·rw [if_pos c109] at H
       have c109b0 : (a0_4 == 5) = true := beq_iff_eq.mpr c109
       have c109b1 : (a0_4 != 5) = false := bne_eq_false_iff_eq.mpr c109
       clear c109
       have H' := Aside0.mk H
       clear H
       go_enter Try.func23, Try.ntmps23
       go_wp2_with (first | ((with_reducible refine gate_dst (N := 2) rfl ?_); refine box_event ?hg (N := 2) ?hd (cs := #[.int .i64 a0_0, .int .i64 a0_1, .bool a0_2, .int .i64 a0_3, .int .i64 a0_4, .int .i64 a0_5, .bool a0_6, .int .i64 a0_7, .int .i64 a0_8]) (t := 24) ?hr ?_; (case hd => rfl); (case hg => rfl); (case hr => first | (go_simp; done) | (go_simp; rfl)); intro gb191 hg w110 hbox hb; have BK191 := Aside0.mk hbox; have GW191 := Sq.ge hg HB; have GE191 := Sq.ge hg HB; replace HB := Sq.sw HB hb; clear hb hbox hg) | ((with_reducible refine gate_dst (N := 3) rfl ?_); refine box_event ?hg (N := 3) ?hd (cs := #[.int .i64 a1_0, .slice A1_1 l1_1.length c1_1]) (t := 27) ?hr ?_; (case hd => rfl); (case hg => rfl); (case hr => first | (go_simp; done) | (go_simp; rfl)); intro gb192 hg w111 hbox hb; have BK192 := Aside0.mk hbox; have GW192 := Sq.ge hg HB; have GE192 := Sq.ge hg HB; obtain ⟨NB191_192, NB192_191⟩ := Sq.np hg BK191; replace BK191 := Sq.sb BK191 hb; replace HB := Sq.sw HB hb; clear hb hbox hg) | ((with_reducible refine gate_dst (N := 4) rfl ?_); refine box_event ?hg (N := 4) ?hd (cs := #[.int .i64 0, .int .i64 0, .bool false, .int .i64 0, .int .i64 0, .int .i64 0, .bool false, .int .i64 0, .int .i64 0]) (t := 24) ?hr ?_; (case hd => rfl); (case hg => rfl); (case hr => first | (go_simp; done) | (go_simp; rfl)); intro gb193 hg w112 hbox hb; have BK193 := Aside0.mk hbox; have GW193 := Sq.ge hg HB; have GE193 := Sq.ge hg HB; obtain ⟨NB191_193, NB193_191⟩ := Sq.np hg BK191; obtain ⟨NB192_193, NB193_192⟩ := Sq.np hg BK192; replace BK191 := Sq.sb BK191 hb; replace BK192 := Sq.sb BK192 hb; replace HB := Sq.sw HB hb; clear hb hbox hg; have b113 := NB191_192.out; have d113 := NB192_191.out; have b114 := NB191_193.out; have d114 := NB193_191.out; obtain ⟨z115_0, z115_1, z115_2, z115_3, z115_4, z115_5, z115_6, z115_7, z115_8⟩ := Sq.c9 BK191.out; obtain ⟨y115_0, y115_1, y115_2, y115_3, y115_4, y115_5, y115_6, y115_7, y115_8⟩ := Sq.f9 BK191.out) | ((with_reducible refine gate_callee (f := 22) rfl ?_); refine goesL_ (some 14) rfl rfl Try.func22 (by kernel_rfl) rfl #[.agg #[.int .i64 a0_0, .int .i64 a0_1, .bool a0_2, .int .i64 a0_3, .int .i64 a0_4, .int .i64 a0_5, .bool a0_6, .int .i64 a0_7, .int .i64 a0_8]] rfl Sq.m ?_; (with_reducible refine (gimbalref9_Next.calls a0_0 a0_1 a0_2 a0_3 a0_4 a0_5 a0_6 a0_7 a0_8 t194 t195 t196 t199 t200 _ A3.out).mono ?_); rintro e w116 ⟨v197, rfl, ho0, hb⟩; refine ⟨_, rfl, ?_⟩; have HO198 := Aside0.mk (Kd.R_lower ho0 (below_size (Sq.w HB.out))); replace BK191 := Sq.sb BK191 hb; replace BK192 := Sq.sb BK192 hb; replace BK193 := Sq.sb BK193 hb; replace HB := Sq.sw HB hb; (try clear hb); (try clear hb2); (try clear hk); (try clear hi); (try clear ho0)) | ((with_reducible refine gate_dst (N := 7) rfl ?_); refine box_event ?hg (N := 7) ?hd (cs := #[.int .i64 0, .int .i64 0, .slice none 0 0, .int .i64 0]) (t := 31) ?hr ?_; (case hd => rfl); (case hg => rfl); (case hr => first | (go_simp; done) | (go_simp; rfl)); intro gb201 hg w117 hbox hb; have BK201 := Aside0.mk hbox; have GW201 := Sq.ge hg HB; have GE201 := Sq.ge hg HB; obtain ⟨NB191_201, NB201_191⟩ := Sq.np hg BK191; obtain ⟨NB192_201, NB201_192⟩ := Sq.np hg BK192; obtain ⟨NB193_201, NB201_193⟩ := Sq.np hg BK193; replace HO198 := Sq.sR HO198 hb; replace BK191 := Sq.sb BK191 hb; replace BK192 := Sq.sb BK192 hb; replace BK193 := Sq.sb BK193 hb; replace HB := Sq.sw HB hb; clear hb hbox hg; have b118 := NB201_191.out; have d118 := NB191_201.out; have b119 := NB201_192.out; have d119 := NB192_201.out; have b120 := NB201_193.out; have d120 := NB193_201.out; obtain ⟨z121_0, z121_1, z121_2, z121_3⟩ := Sq.c4 BK201.out; obtain ⟨y121_0, y121_1, y121_2, y121_3⟩ := Sq.f4 BK201.out; obtain ⟨Ao122, co122, eo122⟩ := Kd.R_slice HO198.out; subst eo122; obtain ⟨z123_0, z123_1, z123_2, z123_3, z123_4, z123_5, z123_6, z123_7, z123_8⟩ := Sq.c9 BK191.out; obtain ⟨y123_0, y123_1, y123_2, y123_3, y123_4, y123_5, y123_6, y123_7, y123_8⟩ := Sq.f9 BK191.out; have b124 := NB192_193.out; have d124 := NB193_192.out; obtain ⟨z125_0, z125_1⟩ := Sq.c2 BK192.out; obtain ⟨y125_0, y125_1⟩ := Sq.f2 BK192.out) | ((with_reducible refine gate_callee (f := 39) rfl ?_); refine goesL_ (some 20) rfl rfl Try.func39 (by kernel_rfl) rfl #[.agg #[.int .i64 a0_0, .int .i64 a0_1, .bool a0_2, .int .i64 a0_3, .int .i64 a0_4, .int .i64 a0_5, .bool a0_6, .int .i64 a0_7, .int .i64 a0_8], .agg #[.int .i64 t194, .int .i64 t195, .slice Ao122 t196.length co122, .int .i64 t199], .agg #[.int .i64 a1_0, .slice A1_1 l1_1.length c1_1]] rfl Sq.m ?_; (with_reducible refine (gimbalref9_good.calls k a0_0 a0_1 a0_2 a0_3 a0_4 a0_5 a0_6 a0_7 a0_8 t194 t195 _ _ t196 t199 a1_0 _ _ l1_1 true _ ?side1 ?side2 ?side3 ?side4 A4.out).mono ?_); (case side1 => refine (Kd.R_reads' (e := 5) (base := w.heap.size) (ok := fun k_ => True) (n := t196.length) (c := co122) ?_).2.2; exact (Sq.xR HO198.out BK201.out)); (case side2 => exact (Kd.R_reads' HO198.out).2.1); (case side3 => exact Kd.C_below HR1_1.out (Sq.w HB.out)); (case side4 => exact HC1_1.out); rintro e w126 ⟨rfl, hb⟩; refine ⟨_, rfl, ?_⟩; replace HO198 := Sq.yR HO198 BK201 hb; replace BK191 := Sq.sF BK191 hb; replace BK192 := Sq.sF BK192 hb; replace BK193 := Sq.sF BK193 hb; replace BK201 := Aside0.mk (blk_below (g := gb201) (o := .cells #[.int .i64 t194, .int .i64 t195, .slice Ao122 t196.length co122, .int .i64 t199] 31 (0, 0)) (Sq.B BK201.out) hb); replace HB := Sq.sw HB hb; (try clear hb); (try clear hb2); (try clear hk); (try clear hi); obtain ⟨z127_0, z127_1, z127_2, z127_3, z127_4, z127_5, z127_6, z127_7, z127_8⟩ := Sq.c9 BK191.out; obtain ⟨y127_0, y127_1, y127_2, y127_3, y127_4, y127_5, y127_6, y127_7, y127_8⟩ := Sq.f9 BK191.out))
       refine Cu.wp_loop (Cu.rep 9 Cu.f (Cu.rep 3 Cu.t (Cu.rep 44 Cu.f (Cu.rep 56 Cu.t (Cu.rep 15 Cu.f []))))) 59 (fun kq us_ w' => ∃ (x9_1 : List (S55)) (x10_1 : Int) (x192008_1 : Int), (Cu.nth us_ 1) = .int .i64 x10_1 ∧ Aside0 (gimbalref9_Take.l0 kq x9_1 x10_1 a0_0 a0_1 a0_2 a0_3 a0_4 0 a0_6 a0_7 x192008_1 a1_0 l1_1 = some (r1, r2, r3, r4, r5, r6, r7, r8, r9, r10, r11)) ∧ Aside0 (kq ≤ k) ∧ Aside0 (Kd.R k55 55 w' w.heap.size (fun _ => True) (Cu.nth us_ 0) x9_1) ∧ Aside0 (Kd.R (Kd.int .u8) 5 w' w.heap.size (fun _ => True) (.slice Ao122 t196.length co122) t196) ∧ Aside0 (w'.heap[gb191]? = some (.cells #[.int .i64 a0_0, .int .i64 a0_1, .bool a0_2, .int .i64 a0_3, .int .i64 a0_4, .int .i64 0, .bool a0_6, .int .i64 a0_7, .int .i64 x192008_1] 24 (0, 0))) ∧ Aside0 (w'.heap[gb192]? = some (.cells #[.int .i64 a1_0, (.slice A1_1 l1_1.length c1_1)] 27 (0, 0))) ∧ Aside0 (w'.heap[gb193]? = some (.cells #[.int .i64 0, .int .i64 0, .bool false, .int .i64 0, .int .i64 0, .int .i64 0, .bool false, .int .i64 0, .int .i64 0] 24 (0, 0))) ∧ Aside0 (w'.heap[gb201]? = some (.cells #[.int .i64 t194, .int .i64 t195, (.slice Ao122 t196.length co122), .int .i64 t199] 31 (0, 0))) ∧ Aside0 (Below w.heap.size w w')) k ?_ (by kernel_rfl) (by kernel_rfl) ?_
       · try dsimp only [Cu.pick, Cu.rep, Cu.nth]
         exact ⟨(([] : List (S55))), (0), (a0_8), Sq.e, H', ⟨Nat.le_refl _⟩, ⟨by first | exact Kd.R_nil _ _ _ _ _ | exact Kd.N_nil _ _ _ _ _ | exact Kd.V_nil _ _ _ _ _ | exact Kd.Q_nil _ _ _ _ _ | exact Kd.S_nil _ _ _ _ _⟩, ⟨Sq.rR (Kd.R_mono (Kd.R_far (p := ⟨gb191, 5, none⟩) (Kd.R_types HO198.out BK191.out (by decide)) (fun _ hk => hk.2) (.int .i64 0)) (fun _ hk => trivial))⟩, ⟨Sq.B BK191.out⟩, ⟨Sq.F BK192.out⟩, ⟨Sq.F BK193.out⟩, ⟨Sq.F BK201.out⟩, ⟨Sq.w HB.out⟩⟩
       ·
        intro gk wr u9 u10 u11 u56 u57 u58 u59 u60 u61 u62 u63 u64 u65 u66 u67 u68 u69 u70 u71 u72 u73 u74 u75 u76 u77 u78 u79 u80 u81 u82 u83 u84 u85 u86 u87 u88 u89 u90 u91 u92 u93 u94 u95 u96 u97 u98 u99 u100 u101 u102 u103 u104 u105 u106 u107 u108 u109 u110 u111
        try dsimp only [Cu.over, Cu.rep, Cu.nth]
        intro hrel _ _ _ _
        clear H'; (try clear c5); (try clear c6); (try clear c6b0); (try clear c6b1); (try clear c26); (try clear c26b0); (try clear c26b1); (try clear c46); (try clear c46b0); (try clear c46b1); (try clear c66); (try clear c66b0); (try clear c66b1); (try clear c109b0); (try clear c109b1); (try clear z115_0 z115_1 z115_2 z115_3 z115_4 z115_5 z115_6 z115_7 z115_8); (try clear z121_0 z121_1 z121_2 z121_3); (try clear z123_0 z123_1 z123_2 z123_3 z123_4 z123_5 z123_6 z123_7 z123_8); (try clear z125_0 z125_1); (try clear z127_0 z127_1 z127_2 z127_3 z127_4 z127_5 z127_6 z127_7 z127_8); (try clear y115_0 y115_1 y115_2 y115_3 y115_4 y115_5 y115_6 y115_7 y115_8); (try clear y121_0 y121_1 y121_2 y121_3); (try clear y123_0 y123_1 y123_2 y123_3 y123_4 y123_5 y123_6 y123_7 y123_8); (try clear y125_0 y125_1); (try clear y127_0 y127_1 y127_2 y127_3 y127_4 y127_5 y127_6 y127_7 y127_8)
        obtain ⟨x9_1, x10_1, x192008_1, rfl, HA, HK1, HO_9, HO_202002, BK191, BK192, BK193, BK201, HB⟩ := hrel
        cases gk with
        | zero => exact absurd HA.out (by simp [gimbalref9_Take.l0])
        | succ k1 =>
         have H := HA.out
         clear HA
         simp only [gimbalref9_Take.l0] at H
         by_cases c128 : x10_1 < (l1_1.length : Int)
         ·rw [if_pos c128] at H
          have c128b0 : decide (x10_1 < (l1_1.length : Int)) = true := decide_eq_true c128
          clear c128
          by_cases c129 : 0 ≤ x10_1
          ·rw [if_pos c129] at H
           have c129b0 := eq_true c129
           have c129b1 : decide (0 ≤ x10_1) = true := decide_eq_true c129
           clear c129
           by_cases c130 : x10_1 ≤ (wrap64 (x10_1 + 8))
           ·rw [if_pos c130] at H
            have c130b0 := eq_true c130
            have c130b1 : decide (x10_1 ≤ (wrap64 (x10_1 + 8))) = true := decide_eq_true c130
            by_cases c131 : (wrap64 (x10_1 + 8)) ≤ (l1_1.length : Int)
            ·rw [if_pos c131] at H
             have c131b0 := eq_true c131
             have c131b1 : decide ((wrap64 (x10_1 + 8)) ≤ (l1_1.length : Int)) = true := decide_eq_true c131
             obtain ⟨yq_, hyq_⟩ : ∃ y_ : List Int, y_ = ((l1_1.take ((wrap64 (x10_1 + 8)) : Int).toNat).drop (x10_1 : Int).toNat) := ⟨_, rfl⟩
             rw [← hyq_] at H
             have Nyq_ := Aside0.mk hyq_
             clear hyq_
             replace H := Option.bind_eq_some_iff.mp H
             obtain ⟨t219, A1320, H⟩ := H
             replace H : (if 7 < (yq_.length : Int) then (if t219 = (rd yq_ 7) then (if 0 < (yq_.length : Int) then (if 1 < (yq_.length : Int) then ((gimbalref9_signed.f (rd yq_ 0) (rd yq_ 1)).bind fun t223 => (if 2 < (yq_.length : Int) then (if 3 < (yq_.length : Int) then ((gimbalref9_signed.f (rd yq_ 2) (rd yq_ 3)).bind fun t226 => (if 4 < (yq_.length : Int) then (if 5 < (yq_.length : Int) then ((gimbalref9_signed.f (rd yq_ 4) (rd yq_ 5)).bind fun t229 => (if 6 < (yq_.length : Int) then (if x9_1.length < 4398046511104 then (gimbalref9_Take.l0 k1 (x9_1 ++ [(⟨t223, t226, t229, wrap64 (IntKind.i8.wrap (rd yq_ 6))⟩ : S55)]) (wrap64 (x10_1 + 8)) a0_0 a0_1 a0_2 a0_3 a0_4 0 a0_6 a0_7 x192008_1 a1_0 l1_1) else (none)) else (none))) else (none)) else (none))) else (none)) else (none))) else (none)) else (none)) else (if x192008_1 < 1099511627776 then (gimbalref9_Take.l0 k1 x9_1 (wrap64 (x10_1 + 8)) a0_0 a0_1 a0_2 a0_3 a0_4 0 a0_6 a0_7 (wrap64 (x192008_1 + 1)) a1_0 l1_1) else (gimbalref9_Take.l0 k1 x9_1 (wrap64 (x10_1 + 8)) a0_0 a0_1 a0_2 a0_3 a0_4 0 a0_6 a0_7 x192008_1 a1_0 l1_1))) else (none)) = some (r1, r2, r3, r4, r5, r6, r7, r8, r9, r10, r11) := H
             have A132 := Aside0.mk A1320
             clear A1320
             by_cases c133 : 7 < (yq_.length : Int)
             ·rw [if_pos c133] at H
              have c133b0 : decide (7 < (yq_.length : Int)) = true := decide_eq_true c133
              have c133b1 : decide (7 < yq_.length) = true := decide_eq_true (by omega)
              clear c133
              by_cases c134 : t219 = (rd yq_ 7)
              ·rw [if_pos c134] at H
               have c134b0 : (t219 == (rd yq_ 7)) = true := beq_iff_eq.mpr c134
               have c134b1 : (t219 != (rd yq_ 7)) = false := bne_eq_false_iff_eq.mpr c134
               clear c134
               by_cases c135 : 0 < (yq_.length : Int)
               ·rw [if_pos c135] at H
                have c135b0 : decide (0 < (yq_.length : Int)) = true := decide_eq_true c135
                have c135b1 : decide (0 < yq_.length) = true := decide_eq_true (by omega)
                clear c135
                by_cases c136 : 1 < (yq_.length : Int)
                ·rw [if_pos c136] at H
                 have c136b0 : decide (1 < (yq_.length : Int)) = true := decide_eq_true c136
                 have c136b1 : decide (1 < yq_.length) = true := decide_eq_true (by omega)
                 clear c136
                 replace H := Option.bind_eq_some_iff.mp H
                 obtain ⟨t223, A1370, H⟩ := H
                 replace H : (if 2 < (yq_.length : Int) then (if 3 < (yq_.length : Int) then ((gimbalref9_signed.f (rd yq_ 2) (rd yq_ 3)).bind fun t226 => (if 4 < (yq_.length : Int) then (if 5 < (yq_.length : Int) then ((gimbalref9_signed.f (rd yq_ 4) (rd yq_ 5)).bind fun t229 => (if 6 < (yq_.length : Int) then (if x9_1.length < 4398046511104 then (gimbalref9_Take.l0 k1 (x9_1 ++ [(⟨t223, t226, t229, wrap64 (IntKind.i8.wrap (rd yq_ 6))⟩ : S55)]) (wrap64 (x10_1 + 8)) a0_0 a0_1 a0_2 a0_3 a0_4 0 a0_6 a0_7 x192008_1 a1_0 l1_1) else (none)) else (none))) else (none)) else (none))) else (none)) else (none)) = some (r1, r2, r3, r4, r5, r6, r7, r8, r9, r10, r11) := H
                 have A137 := Aside0.mk A1370
                 clear A1370
                 by_cases c138 : 2 < (yq_.length : Int)
                 ·rw [if_pos c138] at H
                  have c138b0 : decide (2 < (yq_.length : Int)) = true := decide_eq_true c138
                  have c138b1 : decide (2 < yq_.length) = true := decide_eq_true (by omega)
                  clear c138
                  by_cases c139 : 3 < (yq_.length : Int)
                  ·rw [if_pos c139] at H
                   have c139b0 : decide (3 < (yq_.length : Int)) = true := decide_eq_true c139
                   have c139b1 : decide (3 < yq_.length) = true := decide_eq_true (by omega)
                   clear c139
                   replace H := Option.bind_eq_some_iff.mp H
                   obtain ⟨t226, A1400, H⟩ := H
                   replace H : (if 4 < (yq_.length : Int) then (if 5 < (yq_.length : Int) then ((gimbalref9_signed.f (rd yq_ 4) (rd yq_ 5)).bind fun t229 => (if 6 < (yq_.length : Int) then (if x9_1.length < 4398046511104 then (gimbalref9_Take.l0 k1 (x9_1 ++ [(⟨t223, t226, t229, wrap64 (IntKind.i8.wrap (rd yq_ 6))⟩ : S55)]) (wrap64 (x10_1 + 8)) a0_0 a0_1 a0_2 a0_3 a0_4 0 a0_6 a0_7 x192008_1 a1_0 l1_1) else (none)) else (none))) else (none)) else (none)) = some (r1, r2, r3, r4, r5, r6, r7, r8, r9, r10, r11) := H
                   have A140 := Aside0.mk A1400
                   clear A1400
                   by_cases c141 : 4 < (yq_.length : Int)
                   ·rw [if_pos c141] at H
                    have c141b0 : decide (4 < (yq_.length : Int)) = true := decide_eq_true c141
                    have c141b1 : decide (4 < yq_.length) = true := decide_eq_true (by omega)
                    clear c141
                    by_cases c142 : 5 < (yq_.length : Int)
                    ·rw [if_pos c142] at H
                     have c142b0 : decide (5 < (yq_.length : Int)) = true := decide_eq_true c142
                     have c142b1 : decide (5 < yq_.length) = true := decide_eq_true (by omega)
                     clear c142
                     replace H := Option.bind_eq_some_iff.mp H
                     obtain ⟨t229, A1430, H⟩ := H
                     replace H : (if 6 < (yq_.length : Int) then (if x9_1.length < 4398046511104 then (gimbalref9_Take.l0 k1 (x9_1 ++ [(⟨t223, t226, t229, wrap64 (IntKind.i8.wrap (rd yq_ 6))⟩ : S55)]) (wrap64 (x10_1 + 8)) a0_0 a0_1 a0_2 a0_3 a0_4 0 a0_6 a0_7 x192008_1 a1_0 l1_1) else (none)) else (none)) = some (r1, r2, r3, r4, r5, r6, r7, r8, r9, r10, r11) := H
                     have A143 := Aside0.mk A1430
                     clear A1430
                     by_cases c144 : 6 < (yq_.length : Int)
                     ·rw [if_pos c144] at H
                      have c144b0 : decide (6 < (yq_.length : Int)) = true := decide_eq_true c144
                      have c144b1 : decide (6 < yq_.length) = true := decide_eq_true (by omega)
                      clear c144
                      by_cases c145 : x9_1.length < 4398046511104
                      ·rw [if_pos c145] at H
                       have LMc145 := Aside0.mk c145
                       clear c145
                       obtain ⟨y231, hy231⟩ : ∃ y_ : List (S55), y_ = (x9_1 ++ [(⟨t223, t226, t229, wrap64 (IntKind.i8.wrap (rd yq_ 6))⟩ : S55)]) := ⟨_, rfl⟩
                       replace H : (gimbalref9_Take.l0 k1 y231 (wrap64 (x10_1 + 8)) a0_0 a0_1 a0_2 a0_3 a0_4 0 a0_6 a0_7 x192008_1 a1_0 l1_1) = some (r1, r2, r3, r4, r5, r6, r7, r8, r9, r10, r11) := by first | (rw [hy231]; with_reducible exact H) | (have H2_ := (Option.bind_some _ _).symm.trans H; rw [hy231]; with_reducible exact H2_) | (have H2_ := (Option.bind_some _ _).symm.trans H; with_reducible exact H2_) | with_reducible exact H | (rw [hy231]; exact H) | exact H
                       have Ny231 := Aside0.mk hy231
                       clear hy231
                       have H' := Aside0.mk H
                       clear H; have b146 := NB192_191.out; have d146 := NB191_192.out; have b147 := NB192_193.out; have d147 := NB193_192.out; have b148 := NB192_201.out; have d148 := NB201_192.out
                       obtain ⟨z149_0, z149_1⟩ := Sq.c2 BK192.out
                       obtain ⟨y149_0, y149_1⟩ := Sq.f2 BK192.out
                       obtain ⟨i0150, hi0150, _, hsz150, _⟩ := info_parts info5
                       obtain ⟨A150, hcut150, hA150, hC150⟩ := print_mid_of (P := Try.prog) (Value.int .u8) 0 25 5 .i64 .i64 Try.underlying25 hi0150 hsz150 A1_1 c1_1 l1_1 x10_1 (wrap64 (x10_1 + 8)) (of_decide_eq_true (by first | (with_reducible assumption) | assumption)) (by first | omega | exact of_decide_eq_true (by first | (with_reducible assumption) | assumption)) (of_decide_eq_true (by first | (with_reducible assumption) | assumption)) HC1_1.out
                       rw [← Nyq_.out] at hcut150 hA150 hC150
                       have HR218 := Aside0.mk (Kd.C_of_reads (h1 := fun _ => rfl) (hA150 _ (Kd.reads_of_C HR1_1.out)))
                       have HC218 := Aside0.mk hC150
                       clear hA150 hC150 hi0150 hsz150
                       try go_wp2
                       replace HO_9 := Aside0.mk (Kd.R_drew HO_9.out); replace HO_202002 := Aside0.mk (Kd.R_drew HO_202002.out); replace BK191 := Aside0.mk (blk_drew BK191.out); replace BK192 := Aside0.mk (blk_drew BK192.out); replace BK193 := Aside0.mk (blk_drew BK193.out); replace BK201 := Aside0.mk (blk_drew BK201.out); replace HB := Aside0.mk (below_drew1 HB.out)
                       have p220 : 0 ≤ (7 : Int) := (by omega)
                       have q220 : 7 < (yq_.length : Int) := of_decide_eq_true (by first | (with_reducible assumption) | assumption)
                       obtain ⟨ad220, e220, hx220_0⟩ := Kd.at_int HR218.out 7 p220 q220
                       have hw220_0 := hx220_0
                       (try rw [show ((7 : Int)).toNat = 7 from rfl] at hw220_0)
                       (try rw [show 7 * 1 = 7 from rfl] at hw220_0)
                       (try simp only [Nat.reduceMul, Nat.reduceEqDiff, Go.Addr.add, ↓reduceIte] at hw220_0)
                       cases e220
                       (try simp only [show (7 : Int).toNat = 7 from rfl, Nat.reduceMul, Nat.reduceEqDiff, Go.Addr.add, ↓reduceIte] at hx220_0)
                       have qi220 : (7 < yq_.length) = True := eq_true (by omega)
                       (try rw [show ((7 : Int)).toNat = 7 from rfl] at hx220_0)
                       replace hx220_0 := (HB.out.cell (World.block_lt_of_cell? w _ hx220_0)).trans hx220_0
                       replace p220 := eq_true p220
                       replace q220 := eq_true q220
                       refine start_ (n := 6) (S := fun w' => w'.cell? ⟨ad220.block, ad220.off + 7, none⟩ = some (.int .u8 (rd yq_ 7))) (ds := []) #[false, false, false, false, false, false] (by kernel_rfl) rfl rfl (((HB.out.cell (World.block_lt_of_cell? w _ hw220_0)).trans hw220_0)) (fun hHeld => ?_)
                       generalize wr.drew = w151 at HO_9 HO_202002 BK191 BK192 BK193 BK201 HB hx220_0 hHeld ⊢
                       refine pure_ (i := 0) (N := some 69) (v := ?_) (a' := ?_) #[true, false, false, false, false, false] rfl rfl (by kernel_rfl) (fun _ _ _ h => h) (Or.inl ⟨by rfl, ?_⟩) ?_ ?_
                       rotate_left
                       ·intro w'; go_simp; with_reducible rfl
                       rotate_left
                       ·simp only [Act.put, List.setIfInBounds_toArray, List.set_cons_zero, List.set_cons_succ, i64_w, i32_w]; rfl
                       refine pure_ (i := 2) (N := some 71) (v := ?_) (a' := ?_) #[true, false, true, false, false, false] rfl rfl (by kernel_rfl) (fun _ _ _ h => h) (Or.inl ⟨by rfl, ?_⟩) ?_ ?_
                       rotate_left
                       ·intro w'; go_simp; with_reducible rfl
                       rotate_left
                       ·simp only [Act.put, List.setIfInBounds_toArray, List.set_cons_zero, List.set_cons_succ, i64_w, i32_w]; rfl
                       refine pure_ (i := 3) (N := some 72) (v := ?_) (a' := ?_) #[true, false, true, true, false, false] rfl rfl (by kernel_rfl) (fun _ _ _ h => h) (Or.inl ⟨by rfl, ?_⟩) ?_ ?_
                       rotate_left
                       ·intro w'; go_simp; with_reducible rfl
                       rotate_left
                       ·simp only [Act.put, List.setIfInBounds_toArray, List.set_cons_zero, List.set_cons_succ, i64_w, i32_w]; rfl
                       refine take_ (i := 4) (N := some 73) (v := ?_) (a' := ?_) #[true, false, true, true, true, false] rfl rfl (by kernel_rfl) (fun _ _ _ h => h) (Or.inl ⟨by rfl, ?_⟩) hHeld ?_ ?_
                       rotate_left
                       ·intro w' s0; go_simp; with_reducible rfl
                       rotate_left
                       ·simp only [Act.put, List.setIfInBounds_toArray, List.set_cons_zero, List.set_cons_succ, i64_w, i32_w]; rfl
                       refine one_ (i := 1) (N := some 70) #[true, true, true, true, true, false] rfl rfl (by kernel_rfl) (by decide) (fun K hK => ?_)
                       refine goes_ Try.func38 (by kernel_rfl) rfl #[.slice (some ad220) yq_.length (c1_1 - x10_1.toNat)] (by rfl) rfl rfl (by (try simp only [List.map_toArray, List.map_cons, List.map_nil]); first | done | (rw [show yq_.length = ((wrap64 (x10_1 + 8)).toNat - x10_1.toNat) from (by rw [List.length_drop, List.length_take]; have h_ : ((wrap64 (x10_1 + 8)) : Int) ≤ (l1_1.length : Int) := of_decide_eq_true (by first | (with_reducible assumption) | assumption); omega)] <;> rfl) | rfl | (simp only [List.length_drop, List.length_take]; rfl)) ?_
                       with_reducible refine (gimbalref8_Check.calls k1 _ _ yq_ t219 _ ?side1 ?side2 A132.out).mono ?_
                       (case side1 => repeat (first | exact (Kd.C_below HR218.out HB.out) | (with_reducible refine Kd.C_alloc ?_ _) | (with_reducible refine Kd.C_drewN ?_ _) | (with_reducible refine Kd.C_drew ?_)))
                       (case side2 => exact HC218.out)
                       rintro e w' ⟨rfl, ⟨nd, rfl⟩⟩
                       refine ⟨_, rfl, ?_⟩
                       refine hK.out _ _ (((HB.out.cell (World.block_lt_of_cell? w _ hw220_0)).trans hw220_0)) (fun hHeld => ?_)
                       clear hK K
                       refine norm_ (a' := ?_) ?_ ?_
                       rotate_left
                       ·show Act.put _ (some 70) _ = _; simp only [Act.put, List.setIfInBounds_toArray, List.set_cons_zero, List.set_cons_succ, i64_w, i32_w]; rfl
                       refine pure_ (i := 5) (N := some 74) (v := ?_) (a' := ?_) #[true, true, true, true, true, true] rfl rfl (by kernel_rfl) (fun _ _ _ h => h) (Or.inl ⟨by rfl, ?_⟩) ?_ ?_
                       rotate_left
                       ·intro w'; go_simp; with_reducible rfl
                       rotate_left
                       ·simp only [Act.put, List.setIfInBounds_toArray, List.set_cons_zero, List.set_cons_succ, i64_w, i32_w]; rfl
                       refine done_ (by kernel_rfl) ?_
                       try go_wp2
                       (try (rw [drewN_self w151]; generalize hq_ : World.drewN w151 _ = w151; have n0_ : Aside0 (Kd.R (Kd.int .u8) 5 w151 w.heap.size (fun _ => True) (.slice Ao122 t196.length co122) t196) := ⟨by rw [← hq_]; exact (Sq.rR HO_202002.out)⟩; have n1_ : Aside0 (Kd.R k55 55 w151 w.heap.size (fun _ => True) u9 x9_1) := ⟨by rw [← hq_]; exact (Sq.rR HO_9.out)⟩; have n2_ : Aside0 (w151.heap[gb191]? = some (.cells #[.int .i64 a0_0, .int .i64 a0_1, .bool a0_2, .int .i64 a0_3, .int .i64 a0_4, .int .i64 0, .bool a0_6, .int .i64 a0_7, .int .i64 x192008_1] 24 (0, 0))) := ⟨by rw [← hq_]; exact (Sq.b BK191.out)⟩; have n3_ : Aside0 (w151.heap[gb192]? = some (.cells #[.int .i64 a1_0, .slice A1_1 l1_1.length c1_1] 27 (0, 0))) := ⟨by rw [← hq_]; exact (Sq.b BK192.out)⟩; have n4_ : Aside0 (w151.heap[gb193]? = some (.cells #[.int .i64 0, .int .i64 0, .bool false, .int .i64 0, .int .i64 0, .int .i64 0, .bool false, .int .i64 0, .int .i64 0] 24 (0, 0))) := ⟨by rw [← hq_]; exact (Sq.b BK193.out)⟩; have n5_ : Aside0 (w151.heap[gb201]? = some (.cells #[.int .i64 t194, .int .i64 t195, .slice Ao122 t196.length co122, .int .i64 t199] 31 (0, 0))) := ⟨by rw [← hq_]; exact (Sq.b BK201.out)⟩; have n6_ : Aside0 (Below w.heap.size w w151) := ⟨by rw [← hq_]; exact (Sq.w HB.out)⟩; clear HO_202002 HO_9 BK191 BK192 BK193 BK201 HB hq_; have HO_202002 := n0_; have HO_9 := n1_; have BK191 := n2_; have BK192 := n3_; have BK193 := n4_; have BK201 := n5_; have HB := n6_; clear n0_ n1_ n2_ n3_ n4_ n5_ n6_))
                       replace HO_9 := Aside0.mk (Kd.R_drew HO_9.out); replace HO_202002 := Aside0.mk (Kd.R_drew HO_202002.out); replace BK191 := Aside0.mk (blk_drew BK191.out); replace BK192 := Aside0.mk (blk_drew BK192.out); replace BK193 := Aside0.mk (blk_drew BK193.out); replace BK201 := Aside0.mk (blk_drew BK201.out); replace HB := Aside0.mk (below_drew1 HB.out)
                       have p221 : 0 ≤ (0 : Int) := (by omega)
                       have q221 : 0 < (yq_.length : Int) := of_decide_eq_true (by first | (with_reducible assumption) | assumption)
                       obtain ⟨ad221, e221, hx221_0⟩ := Kd.at_int HR218.out 0 p221 q221
                       have hw221_0 := hx221_0
                       (try rw [show ((0 : Int)).toNat = 0 from rfl] at hw221_0)
                       (try rw [show 0 * 1 = 0 from rfl] at hw221_0)
                       (try rw [Addr.add_zero'] at hw221_0)
                       obtain rfl : ad220 = ad221 := (by injection e221)
                       have qi221 : (0 < yq_.length) = True := eq_true (by omega)
                       (try rw [show ((0 : Int)).toNat = 0 from rfl] at hx221_0)
                       (try rw [Addr.add_zero'] at hx221_0)
                       replace hx221_0 := (HB.out.cell (World.block_lt_of_cell? w _ hx221_0)).trans hx221_0
                       replace p221 := eq_true p221
                       replace q221 := eq_true q221
                       have p222 : 0 ≤ (1 : Int) := (by omega)
                       have q222 : 1 < (yq_.length : Int) := of_decide_eq_true (by first | (with_reducible assumption) | assumption)
                       obtain ⟨ad222, e222, hx222_0⟩ := Kd.at_int HR218.out 1 p222 q222
                       have hw222_0 := hx222_0
                       (try rw [show ((1 : Int)).toNat = 1 from rfl] at hw222_0)
                       (try rw [show 1 * 1 = 1 from rfl] at hw222_0)
                       (try simp only [Nat.reduceMul, Nat.reduceEqDiff, Go.Addr.add, ↓reduceIte] at hw222_0)
                       obtain rfl : ad220 = ad222 := (by injection e222)
                       (try simp only [show (1 : Int).toNat = 1 from rfl, Nat.reduceMul, Nat.reduceEqDiff, Go.Addr.add, ↓reduceIte] at hx222_0)
                       have qi222 : (1 < yq_.length) = True := eq_true (by omega)
                       (try rw [show ((1 : Int)).toNat = 1 from rfl] at hx222_0)
                       replace hx222_0 := (HB.out.cell (World.block_lt_of_cell? w _ hx222_0)).trans hx222_0
                       replace p222 := eq_true p222
                       replace q222 := eq_true q222
                       have p224 : 0 ≤ (2 : Int) := (by omega)
                       have q224 : 2 < (yq_.length : Int) := of_decide_eq_true (by first | (with_reducible assumption) | assumption)
                       obtain ⟨ad224, e224, hx224_0⟩ := Kd.at_int HR218.out 2 p224 q224
                       have hw224_0 := hx224_0
                       (try rw [show ((2 : Int)).toNat = 2 from rfl] at hw224_0)
                       (try rw [show 2 * 1 = 2 from rfl] at hw224_0)
                       (try simp only [Nat.reduceMul, Nat.reduceEqDiff, Go.Addr.add, ↓reduceIte] at hw224_0)
                       obtain rfl : ad220 = ad224 := (by injection e224)
                       (try simp only [show (2 : Int).toNat = 2 from rfl, Nat.reduceMul, Nat.reduceEqDiff, Go.Addr.add, ↓reduceIte] at hx224_0)
                       have qi224 : (2 < yq_.length) = True := eq_true (by omega)
                       (try rw [show ((2 : Int)).toNat = 2 from rfl] at hx224_0)
                       replace hx224_0 := (HB.out.cell (World.block_lt_of_cell? w _ hx224_0)).trans hx224_0
                       replace p224 := eq_true p224
                       replace q224 := eq_true q224
                       have p225 : 0 ≤ (3 : Int) := (by omega)
                       have q225 : 3 < (yq_.length : Int) := of_decide_eq_true (by first | (with_reducible assumption) | assumption)
                       obtain ⟨ad225, e225, hx225_0⟩ := Kd.at_int HR218.out 3 p225 q225
                       have hw225_0 := hx225_0
                       (try rw [show ((3 : Int)).toNat = 3 from rfl] at hw225_0)
                       (try rw [show 3 * 1 = 3 from rfl] at hw225_0)
                       (try simp only [Nat.reduceMul, Nat.reduceEqDiff, Go.Addr.add, ↓reduceIte] at hw225_0)
                       obtain rfl : ad220 = ad225 := (by injection e225)
                       (try simp only [show (3 : Int).toNat = 3 from rfl, Nat.reduceMul, Nat.reduceEqDiff, Go.Addr.add, ↓reduceIte] at hx225_0)
                       have qi225 : (3 < yq_.length) = True := eq_true (by omega)
                       (try rw [show ((3 : Int)).toNat = 3 from rfl] at hx225_0)
                       replace hx225_0 := (HB.out.cell (World.block_lt_of_cell? w _ hx225_0)).trans hx225_0
                       replace p225 := eq_true p225
                       replace q225 := eq_true q225
                       have p227 : 0 ≤ (4 : Int) := (by omega)
                       have q227 : 4 < (yq_.length : Int) := of_decide_eq_true (by first | (with_reducible assumption) | assumption)
                       obtain ⟨ad227, e227, hx227_0⟩ := Kd.at_int HR218.out 4 p227 q227
                       have hw227_0 := hx227_0
                       (try rw [show ((4 : Int)).toNat = 4 from rfl] at hw227_0)
                       (try rw [show 4 * 1 = 4 from rfl] at hw227_0)
                       (try simp only [Nat.reduceMul, Nat.reduceEqDiff, Go.Addr.add, ↓reduceIte] at hw227_0)
                       obtain rfl : ad220 = ad227 := (by injection e227)
                       (try simp only [show (4 : Int).toNat = 4 from rfl, Nat.reduceMul, Nat.reduceEqDiff, Go.Addr.add, ↓reduceIte] at hx227_0)
                       have qi227 : (4 < yq_.length) = True := eq_true (by omega)
                       (try rw [show ((4 : Int)).toNat = 4 from rfl] at hx227_0)
                       replace hx227_0 := (HB.out.cell (World.block_lt_of_cell? w _ hx227_0)).trans hx227_0
                       replace p227 := eq_true p227
                       replace q227 := eq_true q227
                       have p228 : 0 ≤ (5 : Int) := (by omega)
                       have q228 : 5 < (yq_.length : Int) := of_decide_eq_true (by first | (with_reducible assumption) | assumption)
                       obtain ⟨ad228, e228, hx228_0⟩ := Kd.at_int HR218.out 5 p228 q228
                       have hw228_0 := hx228_0
                       (try rw [show ((5 : Int)).toNat = 5 from rfl] at hw228_0)
                       (try rw [show 5 * 1 = 5 from rfl] at hw228_0)
                       (try simp only [Nat.reduceMul, Nat.reduceEqDiff, Go.Addr.add, ↓reduceIte] at hw228_0)
                       obtain rfl : ad220 = ad228 := (by injection e228)
                       (try simp only [show (5 : Int).toNat = 5 from rfl, Nat.reduceMul, Nat.reduceEqDiff, Go.Addr.add, ↓reduceIte] at hx228_0)
                       have qi228 : (5 < yq_.length) = True := eq_true (by omega)
                       (try rw [show ((5 : Int)).toNat = 5 from rfl] at hx228_0)
                       replace hx228_0 := (HB.out.cell (World.block_lt_of_cell? w _ hx228_0)).trans hx228_0
                       replace p228 := eq_true p228
                       replace q228 := eq_true q228
                       have p230 : 0 ≤ (6 : Int) := (by omega)
                       have q230 : 6 < (yq_.length : Int) := of_decide_eq_true (by first | (with_reducible assumption) | assumption)
                       obtain ⟨ad230, e230, hx230_0⟩ := Kd.at_int HR218.out 6 p230 q230
                       have hw230_0 := hx230_0
                       (try rw [show ((6 : Int)).toNat = 6 from rfl] at hw230_0)
                       (try rw [show 6 * 1 = 6 from rfl] at hw230_0)
                       (try simp only [Nat.reduceMul, Nat.reduceEqDiff, Go.Addr.add, ↓reduceIte] at hw230_0)
                       obtain rfl : ad220 = ad230 := (by injection e230)
                       (try simp only [show (6 : Int).toNat = 6 from rfl, Nat.reduceMul, Nat.reduceEqDiff, Go.Addr.add, ↓reduceIte] at hx230_0)
                       have qi230 : (6 < yq_.length) = True := eq_true (by omega)
                       (try rw [show ((6 : Int)).toNat = 6 from rfl] at hx230_0)
                       replace hx230_0 := (HB.out.cell (World.block_lt_of_cell? w _ hx230_0)).trans hx230_0
                       replace p230 := eq_true p230
                       replace q230 := eq_true q230
                       refine start_ (n := 31) (S := fun w' => w'.cell? ad220 = some (.int .u8 (rd yq_ 0)) ∧ w'.cell? ⟨ad220.block, ad220.off + 1, none⟩ = some (.int .u8 (rd yq_ 1)) ∧ w'.cell? ⟨ad220.block, ad220.off + 2, none⟩ = some (.int .u8 (rd yq_ 2)) ∧ w'.cell? ⟨ad220.block, ad220.off + 3, none⟩ = some (.int .u8 (rd yq_ 3)) ∧ w'.cell? ⟨ad220.block, ad220.off + 4, none⟩ = some (.int .u8 (rd yq_ 4)) ∧ w'.cell? ⟨ad220.block, ad220.off + 5, none⟩ = some (.int .u8 (rd yq_ 5)) ∧ w'.cell? ⟨ad220.block, ad220.off + 6, none⟩ = some (.int .u8 (rd yq_ 6))) (ds := []) #[false, false, false, false, false, false, false, false, false, false, false, false, false, false, false, false, false, false, false, false, false, false, false, false, false, false, false, false, false, false, false] (by kernel_rfl) rfl rfl ⟨((HB.out.cell (World.block_lt_of_cell? w _ hw221_0)).trans hw221_0), ((HB.out.cell (World.block_lt_of_cell? w _ hw222_0)).trans hw222_0), ((HB.out.cell (World.block_lt_of_cell? w _ hw224_0)).trans hw224_0), ((HB.out.cell (World.block_lt_of_cell? w _ hw225_0)).trans hw225_0), ((HB.out.cell (World.block_lt_of_cell? w _ hw227_0)).trans hw227_0), ((HB.out.cell (World.block_lt_of_cell? w _ hw228_0)).trans hw228_0), ((HB.out.cell (World.block_lt_of_cell? w _ hw230_0)).trans hw230_0)⟩ (fun hHeld => ?_); refine with_tabW gimbalref9_Take.tab26 gimbalref9_Take.bits26 (fun HT_ HW_ => ?_)
                       generalize w151.drew = w152 at HO_9 HO_202002 BK191 BK192 BK193 BK201 HB hx221_0 hx222_0 hx224_0 hx225_0 hx227_0 hx228_0 hx230_0 hHeld ⊢
                       refine pure_ (i := 0) (N := some 82) (v := ?_) (a' := ?_) #[true, false, false, false, false, false, false, false, false, false, false, false, false, false, false, false, false, false, false, false, false, false, false, false, false, false, false, false, false, false, false] rfl rfl (any_of HT_.out (by kernel_rfl)) (fun _ _ _ h => h) (Or.inl ⟨by rfl, ?_⟩) ?_ ?_
                       rotate_left
                       ·intro w'; go_simp; with_reducible rfl
                       rotate_left
                       ·simp only [Act.put, List.setIfInBounds_toArray, List.set_cons_zero, List.set_cons_succ, i64_w, i32_w]; rfl
                       refine pure_ (i := 1) (N := some 83) (v := ?_) (a' := ?_) #[true, true, false, false, false, false, false, false, false, false, false, false, false, false, false, false, false, false, false, false, false, false, false, false, false, false, false, false, false, false, false] rfl rfl (any_of HT_.out (by kernel_rfl)) (fun _ _ _ h => h) (Or.inl ⟨by rfl, ?_⟩) ?_ ?_
                       rotate_left
                       ·intro w'; go_simp; with_reducible rfl
                       rotate_left
                       ·simp only [Act.put, List.setIfInBounds_toArray, List.set_cons_zero, List.set_cons_succ, i64_w, i32_w]; rfl
                       refine pure_ (i := 2) (N := some 84) (v := ?_) (a' := ?_) #[true, true, true, false, false, false, false, false, false, false, false, false, false, false, false, false, false, false, false, false, false, false, false, false, false, false, false, false, false, false, false] rfl rfl (any_of HT_.out (by kernel_rfl)) (fun _ _ _ h => h) (Or.inl ⟨by rfl, ?_⟩) ?_ ?_
                       rotate_left
                       ·intro w'; go_simp; with_reducible rfl
                       rotate_left
                       ·simp only [Act.put, List.setIfInBounds_toArray, List.set_cons_zero, List.set_cons_succ, i64_w, i32_w]; rfl
                       refine pure_ (i := 4) (N := some 86) (v := ?_) (a' := ?_) #[true, true, true, false, true, false, false, false, false, false, false, false, false, false, false, false, false, false, false, false, false, false, false, false, false, false, false, false, false, false, false] rfl rfl (any_of HT_.out (by kernel_rfl)) (fun _ _ _ h => h) (Or.inl ⟨by rfl, ?_⟩) ?_ ?_
                       rotate_left
                       ·intro w'; go_simp; with_reducible rfl
                       rotate_left
                       ·simp only [Act.put, List.setIfInBounds_toArray, List.set_cons_zero, List.set_cons_succ, i64_w, i32_w]; rfl
                       refine pure_ (i := 5) (N := some 87) (v := ?_) (a' := ?_) #[true, true, true, false, true, true, false, false, false, false, false, false, false, false, false, false, false, false, false, false, false, false, false, false, false, false, false, false, false, false, false] rfl rfl (any_of HT_.out (by kernel_rfl)) (fun _ _ _ h => h) (Or.inl ⟨by rfl, ?_⟩) ?_ ?_
                       rotate_left
                       ·intro w'; go_simp; with_reducible rfl
                       rotate_left
                       ·simp only [Act.put, List.setIfInBounds_toArray, List.set_cons_zero, List.set_cons_succ, i64_w, i32_w]; rfl
                       refine pure_ (i := 8) (N := some 90) (v := ?_) (a' := ?_) #[true, true, true, false, true, true, false, false, true, false, false, false, false, false, false, false, false, false, false, false, false, false, false, false, false, false, false, false, false, false, false] rfl rfl (any_of HT_.out (by kernel_rfl)) (fun _ _ _ h => h) (Or.inl ⟨by rfl, ?_⟩) ?_ ?_
                       rotate_left
                       ·intro w'; go_simp; with_reducible rfl
                       rotate_left
                       ·simp only [Act.put, List.setIfInBounds_toArray, List.set_cons_zero, List.set_cons_succ, i64_w, i32_w]; rfl
                       refine pure_ (i := 9) (N := some 91) (v := ?_) (a' := ?_) #[true, true, true, false, true, true, false, false, true, true, false, false, false, false, false, false, false, false, false, false, false, false, false, false, false, false, false, false, false, false, false] rfl rfl (any_of HT_.out (by kernel_rfl)) (fun _ _ _ h => h) (Or.inl ⟨by rfl, ?_⟩) ?_ ?_
                       rotate_left
                       ·intro w'; go_simp; with_reducible rfl
                       rotate_left
                       ·simp only [Act.put, List.setIfInBounds_toArray, List.set_cons_zero, List.set_cons_succ, i64_w, i32_w]; rfl
                       refine pure_ (i := 11) (N := some 93) (v := ?_) (a' := ?_) #[true, true, true, false, true, true, false, false, true, true, false, true, false, false, false, false, false, false, false, false, false, false, false, false, false, false, false, false, false, false, false] rfl rfl (any_of HT_.out (by kernel_rfl)) (fun _ _ _ h => h) (Or.inl ⟨by rfl, ?_⟩) ?_ ?_
                       rotate_left
                       ·intro w'; go_simp; with_reducible rfl
                       rotate_left
                       ·simp only [Act.put, List.setIfInBounds_toArray, List.set_cons_zero, List.set_cons_succ, i64_w, i32_w]; rfl
                       refine pure_ (i := 12) (N := some 94) (v := ?_) (a' := ?_) #[true, true, true, false, true, true, false, false, true, true, false, true, true, false, false, false, false, false, false, false, false, false, false, false, false, false, false, false, false, false, false] rfl rfl (any_of HT_.out (by kernel_rfl)) (fun _ _ _ h => h) (Or.inl ⟨by rfl, ?_⟩) ?_ ?_
                       rotate_left
                       ·intro w'; go_simp; with_reducible rfl
                       rotate_left
                       ·simp only [Act.put, List.setIfInBounds_toArray, List.set_cons_zero, List.set_cons_succ, i64_w, i32_w]; rfl
                       refine pure_ (i := 15) (N := some 97) (v := ?_) (a' := ?_) #[true, true, true, false, true, true, false, false, true, true, false, true, true, false, false, true, false, false, false, false, false, false, false, false, false, false, false, false, false, false, false] rfl rfl (any_of HT_.out (by kernel_rfl)) (fun _ _ _ h => h) (Or.inl ⟨by rfl, ?_⟩) ?_ ?_
                       rotate_left
                       ·intro w'; go_simp; with_reducible rfl
                       rotate_left
                       ·simp only [Act.put, List.setIfInBounds_toArray, List.set_cons_zero, List.set_cons_succ, i64_w, i32_w]; rfl
                       refine pure_ (i := 16) (N := some 98) (v := ?_) (a' := ?_) #[true, true, true, false, true, true, false, false, true, true, false, true, true, false, false, true, true, false, false, false, false, false, false, false, false, false, false, false, false, false, false] rfl rfl (any_of HT_.out (by kernel_rfl)) (fun _ _ _ h => h) (Or.inl ⟨by rfl, ?_⟩) ?_ ?_
                       rotate_left
                       ·intro w'; go_simp; with_reducible rfl
                       rotate_left
                       ·simp only [Act.put, List.setIfInBounds_toArray, List.set_cons_zero, List.set_cons_succ, i64_w, i32_w]; rfl
                       refine pure_ (i := 18) (N := some 100) (v := ?_) (a' := ?_) #[true, true, true, false, true, true, false, false, true, true, false, true, true, false, false, true, true, false, true, false, false, false, false, false, false, false, false, false, false, false, false] rfl rfl (any_of HT_.out (by kernel_rfl)) (fun _ _ _ h => h) (Or.inl ⟨by rfl, ?_⟩) ?_ ?_
                       rotate_left
                       ·intro w'; go_simp; with_reducible rfl
                       rotate_left
                       ·simp only [Act.put, List.setIfInBounds_toArray, List.set_cons_zero, List.set_cons_succ, i64_w, i32_w]; rfl
                       refine pure_ (i := 19) (N := some 101) (v := ?_) (a' := ?_) #[true, true, true, false, true, true, false, false, true, true, false, true, true, false, false, true, true, false, true, true, false, false, false, false, false, false, false, false, false, false, false] rfl rfl (any_of HT_.out (by kernel_rfl)) (fun _ _ _ h => h) (Or.inl ⟨by rfl, ?_⟩) ?_ ?_
                       rotate_left
                       ·intro w'; go_simp; with_reducible rfl
                       rotate_left
                       ·simp only [Act.put, List.setIfInBounds_toArray, List.set_cons_zero, List.set_cons_succ, i64_w, i32_w]; rfl
                       refine pure_ (i := 22) (N := some 104) (v := ?_) (a' := ?_) #[true, true, true, false, true, true, false, false, true, true, false, true, true, false, false, true, true, false, true, true, false, false, true, false, false, false, false, false, false, false, false] rfl rfl (any_of HT_.out (by kernel_rfl)) (fun _ _ _ h => h) (Or.inl ⟨by rfl, ?_⟩) ?_ ?_
                       rotate_left
                       ·intro w'; go_simp; with_reducible rfl
                       rotate_left
                       ·simp only [Act.put, List.setIfInBounds_toArray, List.set_cons_zero, List.set_cons_succ, i64_w, i32_w]; rfl
                       refine pure_ (i := 23) (N := some 105) (v := ?_) (a' := ?_) #[true, true, true, false, true, true, false, false, true, true, false, true, true, false, false, true, true, false, true, true, false, false, true, true, false, false, false, false, false, false, false] rfl rfl (any_of HT_.out (by kernel_rfl)) (fun _ _ _ h => h) (Or.inl ⟨by rfl, ?_⟩) ?_ ?_
                       rotate_left
                       ·intro w'; go_simp; with_reducible rfl
                       rotate_left
                       ·simp only [Act.put, List.setIfInBounds_toArray, List.set_cons_zero, List.set_cons_succ, i64_w, i32_w]; rfl
                       refine take_ (i := 3) (N := some 85) (v := ?_) (a' := ?_) #[true, true, true, true, true, true, false, false, true, true, false, true, true, false, false, true, true, false, true, true, false, false, true, true, false, false, false, false, false, false, false] rfl rfl (take_ofW HT_.out HW_.out (by kernel_rfl)) (fun _ _ _ h => h) (Or.inl ⟨by rfl, ?_⟩) hHeld ?_ ?_
                       rotate_left
                       ·rintro w' ⟨s0, s1, s2, s3, s4, s5, s6⟩
                        go_simp
                        with_reducible rfl
                       rotate_left
                       ·simp only [Act.put, List.setIfInBounds_toArray, List.set_cons_zero, List.set_cons_succ, i64_w, i32_w]; rfl
                       refine take_ (i := 6) (N := some 88) (v := ?_) (a' := ?_) #[true, true, true, true, true, true, true, false, true, true, false, true, true, false, false, true, true, false, true, true, false, false, true, true, false, false, false, false, false, false, false] rfl rfl (take_ofW HT_.out HW_.out (by kernel_rfl)) (fun _ _ _ h => h) (Or.inl ⟨by rfl, ?_⟩) hHeld ?_ ?_
                       rotate_left
                       ·rintro w' ⟨s0, s1, s2, s3, s4, s5, s6⟩
                        go_simp
                        with_reducible rfl
                       rotate_left
                       ·simp only [Act.put, List.setIfInBounds_toArray, List.set_cons_zero, List.set_cons_succ, i64_w, i32_w]; rfl
                       refine take_ (i := 10) (N := some 92) (v := ?_) (a' := ?_) #[true, true, true, true, true, true, true, false, true, true, true, true, true, false, false, true, true, false, true, true, false, false, true, true, false, false, false, false, false, false, false] rfl rfl (take_ofW HT_.out HW_.out (by kernel_rfl)) (fun _ _ _ h => h) (Or.inl ⟨by rfl, ?_⟩) hHeld ?_ ?_
                       rotate_left
                       ·rintro w' ⟨s0, s1, s2, s3, s4, s5, s6⟩
                        go_simp
                        with_reducible rfl
                       rotate_left
                       ·simp only [Act.put, List.setIfInBounds_toArray, List.set_cons_zero, List.set_cons_succ, i64_w, i32_w]; rfl
                       refine take_ (i := 13) (N := some 95) (v := ?_) (a' := ?_) #[true, true, true, true, true, true, true, false, true, true, true, true, true, true, false, true, true, false, true, true, false, false, true, true, false, false, false, false, false, false, false] rfl rfl (take_ofW HT_.out HW_.out (by kernel_rfl)) (fun _ _ _ h => h) (Or.inl ⟨by rfl, ?_⟩) hHeld ?_ ?_
                       rotate_left
                       ·rintro w' ⟨s0, s1, s2, s3, s4, s5, s6⟩
                        go_simp
                        with_reducible rfl
                       rotate_left
                       ·simp only [Act.put, List.setIfInBounds_toArray, List.set_cons_zero, List.set_cons_succ, i64_w, i32_w]; rfl
                       refine take_ (i := 17) (N := some 99) (v := ?_) (a' := ?_) #[true, true, true, true, true, true, true, false, true, true, true, true, true, true, false, true, true, true, true, true, false, false, true, true, false, false, false, false, false, false, false] rfl rfl (take_ofW HT_.out HW_.out (by kernel_rfl)) (fun _ _ _ h => h) (Or.inl ⟨by rfl, ?_⟩) hHeld ?_ ?_
                       rotate_left
                       ·rintro w' ⟨s0, s1, s2, s3, s4, s5, s6⟩
                        go_simp
                        with_reducible rfl
                       rotate_left
                       ·simp only [Act.put, List.setIfInBounds_toArray, List.set_cons_zero, List.set_cons_succ, i64_w, i32_w]; rfl
                       refine take_ (i := 20) (N := some 102) (v := ?_) (a' := ?_) #[true, true, true, true, true, true, true, false, true, true, true, true, true, true, false, true, true, true, true, true, true, false, true, true, false, false, false, false, false, false, false] rfl rfl (take_ofW HT_.out HW_.out (by kernel_rfl)) (fun _ _ _ h => h) (Or.inl ⟨by rfl, ?_⟩) hHeld ?_ ?_
                       rotate_left
                       ·rintro w' ⟨s0, s1, s2, s3, s4, s5, s6⟩
                        go_simp
                        with_reducible rfl
                       rotate_left
                       ·simp only [Act.put, List.setIfInBounds_toArray, List.set_cons_zero, List.set_cons_succ, i64_w, i32_w]; rfl
                       refine take_ (i := 24) (N := some 106) (v := ?_) (a' := ?_) #[true, true, true, true, true, true, true, false, true, true, true, true, true, true, false, true, true, true, true, true, true, false, true, true, true, false, false, false, false, false, false] rfl rfl (take_ofW HT_.out HW_.out (by kernel_rfl)) (fun _ _ _ h => h) (Or.inl ⟨by rfl, ?_⟩) hHeld ?_ ?_
                       rotate_left
                       ·rintro w' ⟨s0, s1, s2, s3, s4, s5, s6⟩
                        go_simp
                        with_reducible rfl
                       rotate_left
                       ·simp only [Act.put, List.setIfInBounds_toArray, List.set_cons_zero, List.set_cons_succ, i64_w, i32_w]; rfl
                       refine pure_ (i := 25) (N := some 107) (v := ?_) (a' := ?_) #[true, true, true, true, true, true, true, false, true, true, true, true, true, true, false, true, true, true, true, true, true, false, true, true, true, true, false, false, false, false, false] rfl rfl (any_of HT_.out (by kernel_rfl)) (fun _ _ _ h => h) (Or.inl ⟨by rfl, ?_⟩) ?_ ?_
                       rotate_left
                       ·intro w'; go_simp; with_reducible rfl
                       rotate_left
                       ·simp only [Act.put, List.setIfInBounds_toArray, List.set_cons_zero, List.set_cons_succ, i64_w, i32_w]; rfl
                       refine pure_ (i := 26) (N := some 108) (v := ?_) (a' := ?_) #[true, true, true, true, true, true, true, false, true, true, true, true, true, true, false, true, true, true, true, true, true, false, true, true, true, true, true, false, false, false, false] rfl rfl (any_of HT_.out (by kernel_rfl)) (fun _ _ _ h => h) (Or.inl ⟨by rfl, ?_⟩) ?_ ?_
                       rotate_left
                       ·intro w'; go_simp; with_reducible rfl
                       rotate_left
                       ·simp only [Act.put, List.setIfInBounds_toArray, List.set_cons_zero, List.set_cons_succ, i64_w, i32_w]; rfl
                       refine one_ (i := 7) (N := some 89) #[true, true, true, true, true, true, true, true, true, true, true, true, true, true, false, true, true, true, true, true, true, false, true, true, true, true, true, false, false, false, false] rfl rfl (one_of HT_.out (by kernel_rfl)) (by decide) (fun K hK => ?_)
                       refine goes_ Try.func41 (by kernel_rfl) rfl #[.int .u8 (rd yq_ 0), .int .u8 (rd yq_ 1)] (by rfl) rfl rfl Sq.m ?_
                       with_reducible refine (gimbalref9_signed.calls (rd yq_ 0) (rd yq_ 1) t223 _ A137.out).mono ?_
                       rintro e w' ⟨rfl, ⟨nd, rfl⟩⟩
                       refine ⟨_, rfl, ?_⟩
                       refine hK.out _ _ ⟨((HB.out.cell (World.block_lt_of_cell? w _ hw221_0)).trans hw221_0), ((HB.out.cell (World.block_lt_of_cell? w _ hw222_0)).trans hw222_0), ((HB.out.cell (World.block_lt_of_cell? w _ hw224_0)).trans hw224_0), ((HB.out.cell (World.block_lt_of_cell? w _ hw225_0)).trans hw225_0), ((HB.out.cell (World.block_lt_of_cell? w _ hw227_0)).trans hw227_0), ((HB.out.cell (World.block_lt_of_cell? w _ hw228_0)).trans hw228_0), ((HB.out.cell (World.block_lt_of_cell? w _ hw230_0)).trans hw230_0)⟩ (fun hHeld => ?_)
                       clear hK K
                       refine norm_ (a' := ?_) ?_ ?_
                       rotate_left
                       ·show Act.put _ (some 89) _ = _; simp only [Act.put, List.setIfInBounds_toArray, List.set_cons_zero, List.set_cons_succ, i64_w, i32_w]; rfl
                       refine one_ (i := 14) (N := some 96) #[true, true, true, true, true, true, true, true, true, true, true, true, true, true, true, true, true, true, true, true, true, false, true, true, true, true, true, false, false, false, false] rfl rfl (one_of HT_.out (by kernel_rfl)) (by decide) (fun K hK => ?_)
                       refine goes_ Try.func41 (by kernel_rfl) rfl #[.int .u8 (rd yq_ 2), .int .u8 (rd yq_ 3)] (by rfl) rfl rfl Sq.m ?_
                       with_reducible refine (gimbalref9_signed.calls (rd yq_ 2) (rd yq_ 3) t226 _ A140.out).mono ?_
                       rintro e w' ⟨rfl, ⟨nd, rfl⟩⟩
                       refine ⟨_, rfl, ?_⟩
                       refine hK.out _ _ ⟨((HB.out.cell (World.block_lt_of_cell? w _ hw221_0)).trans hw221_0), ((HB.out.cell (World.block_lt_of_cell? w _ hw222_0)).trans hw222_0), ((HB.out.cell (World.block_lt_of_cell? w _ hw224_0)).trans hw224_0), ((HB.out.cell (World.block_lt_of_cell? w _ hw225_0)).trans hw225_0), ((HB.out.cell (World.block_lt_of_cell? w _ hw227_0)).trans hw227_0), ((HB.out.cell (World.block_lt_of_cell? w _ hw228_0)).trans hw228_0), ((HB.out.cell (World.block_lt_of_cell? w _ hw230_0)).trans hw230_0)⟩ (fun hHeld => ?_)
                       clear hK K
                       refine norm_ (a' := ?_) ?_ ?_
                       rotate_left
                       ·show Act.put _ (some 96) _ = _; simp only [Act.put, List.setIfInBounds_toArray, List.set_cons_zero, List.set_cons_succ, i64_w, i32_w]; rfl
                       refine one_ (i := 21) (N := some 103) #[true, true, true, true, true, true, true, true, true, true, true, true, true, true, true, true, true, true, true, true, true, true, true, true, true, true, true, false, false, false, false] rfl rfl (one_of HT_.out (by kernel_rfl)) (by decide) (fun K hK => ?_)
                       refine goes_ Try.func41 (by kernel_rfl) rfl #[.int .u8 (rd yq_ 4), .int .u8 (rd yq_ 5)] (by rfl) rfl rfl Sq.m ?_
                       with_reducible refine (gimbalref9_signed.calls (rd yq_ 4) (rd yq_ 5) t229 _ A143.out).mono ?_
                       rintro e w' ⟨rfl, ⟨nd, rfl⟩⟩
                       refine ⟨_, rfl, ?_⟩
                       refine hK.out _ _ ⟨((HB.out.cell (World.block_lt_of_cell? w _ hw221_0)).trans hw221_0), ((HB.out.cell (World.block_lt_of_cell? w _ hw222_0)).trans hw222_0), ((HB.out.cell (World.block_lt_of_cell? w _ hw224_0)).trans hw224_0), ((HB.out.cell (World.block_lt_of_cell? w _ hw225_0)).trans hw225_0), ((HB.out.cell (World.block_lt_of_cell? w _ hw227_0)).trans hw227_0), ((HB.out.cell (World.block_lt_of_cell? w _ hw228_0)).trans hw228_0), ((HB.out.cell (World.block_lt_of_cell? w _ hw230_0)).trans hw230_0)⟩ (fun hHeld => ?_)
                       clear hK K
                       refine norm_ (a' := ?_) ?_ ?_
                       rotate_left
                       ·show Act.put _ (some 103) _ = _; simp only [Act.put, List.setIfInBounds_toArray, List.set_cons_zero, List.set_cons_succ, i64_w, i32_w]; rfl
                       refine pure_ (i := 27) (N := some 109) (v := ?_) (a' := ?_) #[true, true, true, true, true, true, true, true, true, true, true, true, true, true, true, true, true, true, true, true, true, true, true, true, true, true, true, true, false, false, false] rfl rfl (any_of HT_.out (by kernel_rfl)) (fun _ _ _ h => h) (Or.inl ⟨by rfl, ?_⟩) ?_ ?_
                       rotate_left
                       ·intro w'; go_simp; with_reducible rfl
                       rotate_left
                       ·simp only [Act.put, List.setIfInBounds_toArray, List.set_cons_zero, List.set_cons_succ, i64_w, i32_w]; rfl
                       refine one_ (i := 28) (N := some 110) #[true, true, true, true, true, true, true, true, true, true, true, true, true, true, true, true, true, true, true, true, true, true, true, true, true, true, true, true, true, false, false] rfl rfl (one_of HT_.out (by kernel_rfl)) (by decide) (fun K hK => ?_)
                       refine value_ (w1 := ?_) (v := ?_) (by rfl) rfl ?_ ?_
                       rotate_left 2
                       ·go_simp
                        constructor
                        ·rfl
                        ·rfl
                       refine hK.out _ _ ⟨(World.cell?_alloc_lt _ _ _ (World.block_lt_of_cell? _ _ (((HB.out.cell (World.block_lt_of_cell? w _ hw221_0)).trans hw221_0)))).trans (((HB.out.cell (World.block_lt_of_cell? w _ hw221_0)).trans hw221_0)), (World.cell?_alloc_lt _ _ _ (World.block_lt_of_cell? _ _ (((HB.out.cell (World.block_lt_of_cell? w _ hw222_0)).trans hw222_0)))).trans (((HB.out.cell (World.block_lt_of_cell? w _ hw222_0)).trans hw222_0)), (World.cell?_alloc_lt _ _ _ (World.block_lt_of_cell? _ _ (((HB.out.cell (World.block_lt_of_cell? w _ hw224_0)).trans hw224_0)))).trans (((HB.out.cell (World.block_lt_of_cell? w _ hw224_0)).trans hw224_0)), (World.cell?_alloc_lt _ _ _ (World.block_lt_of_cell? _ _ (((HB.out.cell (World.block_lt_of_cell? w _ hw225_0)).trans hw225_0)))).trans (((HB.out.cell (World.block_lt_of_cell? w _ hw225_0)).trans hw225_0)), (World.cell?_alloc_lt _ _ _ (World.block_lt_of_cell? _ _ (((HB.out.cell (World.block_lt_of_cell? w _ hw227_0)).trans hw227_0)))).trans (((HB.out.cell (World.block_lt_of_cell? w _ hw227_0)).trans hw227_0)), (World.cell?_alloc_lt _ _ _ (World.block_lt_of_cell? _ _ (((HB.out.cell (World.block_lt_of_cell? w _ hw228_0)).trans hw228_0)))).trans (((HB.out.cell (World.block_lt_of_cell? w _ hw228_0)).trans hw228_0)), (World.cell?_alloc_lt _ _ _ (World.block_lt_of_cell? _ _ (((HB.out.cell (World.block_lt_of_cell? w _ hw230_0)).trans hw230_0)))).trans (((HB.out.cell (World.block_lt_of_cell? w _ hw230_0)).trans hw230_0))⟩ (fun hHeld => ?_)
                       clear hK K
                       refine norm_ (a' := ?_) ?_ ?_
                       rotate_left
                       ·show Act.put _ (some 110) _ = _; simp only [Act.put, List.setIfInBounds_toArray, List.set_cons_zero, List.set_cons_succ, i64_w, i32_w]; rfl
                       refine one_ (i := 29) (N := some 111) #[true, true, true, true, true, true, true, true, true, true, true, true, true, true, true, true, true, true, true, true, true, true, true, true, true, true, true, true, true, true, false] rfl rfl (one_of HT_.out (by kernel_rfl)) (by decide) (fun K hK => ?_)
                       refine Kd.R_append_step k55 (w0 := w) w.heap.size (by rfl) (.tmp 82) (.tmp 110) 47 55 (.agg #[(.int .i64 0), (.int .i64 0), (.int .i64 0), (.int .i64 0)]) 32 rfl Try.underlying47 info55 rfl (by decide) (by omega) u9 x9_1 (⟨t223, t226, t229, wrap64 (IntKind.i8.wrap (rd yq_ 6))⟩ : S55) [.int .i64 t223, .int .i64 t226, .int .i64 t229, .int .i64 (wrap64 (IntKind.i8.wrap (rd yq_ 6)))] (fun _ => True) (fun _ => False) rfl rfl ?aP (fun _ hk => hk.elim) ?aF ?aO ?aB ?aS ?aL ?_
                       (case aP => exact k55_mkM _ _ _ (⟨t223, t226, t229, wrap64 (IntKind.i8.wrap (rd yq_ 6))⟩ : S55))
                       (case aB => exact (Sq.w HB.out))
                       (case aF => exact (fun _ _ => trivial))
                       (case aO => exact (Sq.rR HO_9.out))
                       (case aS => exact (below_size (Sq.w HB.out)))
                       (case aL => have := LMc145.out; omega)
                       intro v232 w153 ho hb hg hat
                       rw [← Ny231.out] at ho
                       have HO233 := Aside0.mk (ho); replace HO_202002 := Aside0.mk (Kd.R_over' (Sq.rR HO_202002.out) (Kd.R_typed (Sq.rR HO_9.out)) (by decide) hg); replace BK191 := Aside0.mk (blk_grown (g := gb191) (o := .cells #[.int .i64 a0_0, .int .i64 a0_1, .bool a0_2, .int .i64 a0_3, .int .i64 a0_4, .int .i64 0, .bool a0_6, .int .i64 a0_7, .int .i64 x192008_1] 24 (0, 0)) (Sq.b BK191.out) hg (Kd.R_ne HO_9.out BK191.out (by decide))); replace BK192 := Aside0.mk (blk_grown (g := gb192) (o := .cells #[.int .i64 a1_0, .slice A1_1 l1_1.length c1_1] 27 (0, 0)) (Sq.b BK192.out) hg (Kd.R_ne HO_9.out BK192.out (by decide))); replace BK193 := Aside0.mk (blk_grown (g := gb193) (o := .cells #[.int .i64 0, .int .i64 0, .bool false, .int .i64 0, .int .i64 0, .int .i64 0, .bool false, .int .i64 0, .int .i64 0] 24 (0, 0)) (Sq.b BK193.out) hg (Kd.R_ne HO_9.out BK193.out (by decide))); replace BK201 := Aside0.mk (blk_grown (g := gb201) (o := .cells #[.int .i64 t194, .int .i64 t195, .slice Ao122 t196.length co122, .int .i64 t199] 31 (0, 0)) (Sq.b BK201.out) hg (Kd.R_ne HO_9.out BK201.out (by decide))); replace HB := Aside0.mk (hb); clear HO_9
                       clear ho hb hg hat
                       refine hK.out _ _ ⟨((HB.out.cell (World.block_lt_of_cell? w _ hw221_0)).trans hw221_0), ((HB.out.cell (World.block_lt_of_cell? w _ hw222_0)).trans hw222_0), ((HB.out.cell (World.block_lt_of_cell? w _ hw224_0)).trans hw224_0), ((HB.out.cell (World.block_lt_of_cell? w _ hw225_0)).trans hw225_0), ((HB.out.cell (World.block_lt_of_cell? w _ hw227_0)).trans hw227_0), ((HB.out.cell (World.block_lt_of_cell? w _ hw228_0)).trans hw228_0), ((HB.out.cell (World.block_lt_of_cell? w _ hw230_0)).trans hw230_0)⟩ (fun hHeld => ?_)
                       clear hK K
                       refine norm_ (a' := ?_) ?_ ?_
                       rotate_left
                       ·show Act.put _ (some 111) _ = _; simp only [Act.put, List.setIfInBounds_toArray, List.set_cons_zero, List.set_cons_succ, i64_w, i32_w]; rfl
                       refine pure_ (i := 30) (N := some 9) (v := ?_) (a' := ?_) #[true, true, true, true, true, true, true, true, true, true, true, true, true, true, true, true, true, true, true, true, true, true, true, true, true, true, true, true, true, true, true] rfl rfl (any_of HT_.out (by kernel_rfl)) (fun _ _ _ h => h) (Or.inl ⟨by rfl, ?_⟩) ?_ ?_
                       rotate_left
                       ·intro w'; go_simp; with_reducible rfl
                       rotate_left
                       ·simp only [Act.put, List.setIfInBounds_toArray, List.set_cons_zero, List.set_cons_succ, i64_w, i32_w]; rfl
                       refine done_ (done_of HT_.out (by kernel_rfl)) ?_
                       try go_wp2
                       refine Cu.handed k1 (by have := HK1.out; omega) (by assumption) ?_ (by kernel_rfl) (by kernel_rfl)
                       try dsimp only [Cu.pick, Cu.rep, Cu.nth]
                       exact ⟨(y231), (wrap64 (x10_1 + 8)), (x192008_1), Sq.e, H', ⟨by have := HK1.out; omega⟩, ⟨Sq.rR HO233.out⟩, ⟨Sq.rR HO_202002.out⟩, ⟨Sq.b BK191.out⟩, ⟨Sq.b BK192.out⟩, ⟨Sq.b BK193.out⟩, ⟨Sq.b BK201.out⟩, ⟨Sq.w HB.out⟩⟩
                      ·rw [if_neg c145] at H
                       exact absurd H (by simp)
                     ·rw [if_neg c144] at H
                      exact absurd H (by simp)
                    ·rw [if_neg c142] at H
                     exact absurd H (by simp)
                   ·rw [if_neg c141] at H
                    exact absurd H (by simp)
                  ·rw [if_neg c139] at H
                   exact absurd H (by simp)
                 ·rw [if_neg c138] at H
                  exact absurd H (by simp)
                ·rw [if_neg c136] at H
                 exact absurd H (by simp)
               ·rw [if_neg c135] at H
                exact absurd H (by simp)
              ·rw [if_neg c134] at H
               have c134b0 : (t219 == (rd yq_ 7)) = false := beq_eq_false_iff_ne.mpr c134
               have c134b1 : (t219 != (rd yq_ 7)) = true := bne_iff_ne.mpr c134
               by_cases c154 : x192008_1 < 1099511627776
               ·rw [if_pos c154] at H
                have c154b0 : decide (x192008_1 < 1099511627776) = true := decide_eq_true c154
                clear c154
                have H' := Aside0.mk H
                clear H; have b155 := NB192_191.out; have d155 := NB191_192.out; have b156 := NB192_193.out; have d156 := NB193_192.out; have b157 := NB192_201.out; have d157 := NB201_192.out
                obtain ⟨z158_0, z158_1⟩ := Sq.c2 BK192.out
                obtain ⟨y158_0, y158_1⟩ := Sq.f2 BK192.out
                obtain ⟨i0159, hi0159, _, hsz159, _⟩ := info_parts info5
                obtain ⟨A159, hcut159, hA159, hC159⟩ := print_mid_of (P := Try.prog) (Value.int .u8) 0 25 5 .i64 .i64 Try.underlying25 hi0159 hsz159 A1_1 c1_1 l1_1 x10_1 (wrap64 (x10_1 + 8)) (of_decide_eq_true (by first | (with_reducible assumption) | assumption)) (by first | omega | exact of_decide_eq_true (by first | (with_reducible assumption) | assumption)) (of_decide_eq_true (by first | (with_reducible assumption) | assumption)) HC1_1.out
                rw [← Nyq_.out] at hcut159 hA159 hC159
                have HR218 := Aside0.mk (Kd.C_of_reads (h1 := fun _ => rfl) (hA159 _ (Kd.reads_of_C HR1_1.out)))
                have HC218 := Aside0.mk hC159
                clear hA159 hC159 hi0159 hsz159
                try go_wp2
                replace HO_9 := Aside0.mk (Kd.R_drew HO_9.out); replace HO_202002 := Aside0.mk (Kd.R_drew HO_202002.out); replace BK191 := Aside0.mk (blk_drew BK191.out); replace BK192 := Aside0.mk (blk_drew BK192.out); replace BK193 := Aside0.mk (blk_drew BK193.out); replace BK201 := Aside0.mk (blk_drew BK201.out); replace HB := Aside0.mk (below_drew1 HB.out)
                have p220 : 0 ≤ (7 : Int) := (by omega)
                have q220 : 7 < (yq_.length : Int) := of_decide_eq_true (by first | (with_reducible assumption) | assumption)
                obtain ⟨ad220, e220, hx220_0⟩ := Kd.at_int HR218.out 7 p220 q220
                have hw220_0 := hx220_0
                (try rw [show ((7 : Int)).toNat = 7 from rfl] at hw220_0)
                (try rw [show 7 * 1 = 7 from rfl] at hw220_0)
                (try simp only [Nat.reduceMul, Nat.reduceEqDiff, Go.Addr.add, ↓reduceIte] at hw220_0)
                cases e220
                (try simp only [show (7 : Int).toNat = 7 from rfl, Nat.reduceMul, Nat.reduceEqDiff, Go.Addr.add, ↓reduceIte] at hx220_0)
                have qi220 : (7 < yq_.length) = True := eq_true (by omega)
                (try rw [show ((7 : Int)).toNat = 7 from rfl] at hx220_0)
                replace hx220_0 := (HB.out.cell (World.block_lt_of_cell? w _ hx220_0)).trans hx220_0
                replace p220 := eq_true p220
                replace q220 := eq_true q220
                refine start_ (n := 6) (S := fun w' => w'.cell? ⟨ad220.block, ad220.off + 7, none⟩ = some (.int .u8 (rd yq_ 7))) (ds := []) #[false, false, false, false, false, false] (by kernel_rfl) rfl rfl (((HB.out.cell (World.block_lt_of_cell? w _ hw220_0)).trans hw220_0)) (fun hHeld => ?_)
                generalize wr.drew = w160 at HO_9 HO_202002 BK191 BK192 BK193 BK201 HB hx220_0 hHeld ⊢
                refine pure_ (i := 0) (N := some 69) (v := ?_) (a' := ?_) #[true, false, false, false, false, false] rfl rfl (by kernel_rfl) (fun _ _ _ h => h) (Or.inl ⟨by rfl, ?_⟩) ?_ ?_
                rotate_left
                ·intro w'; go_simp; with_reducible rfl
                rotate_left
                ·simp only [Act.put, List.setIfInBounds_toArray, List.set_cons_zero, List.set_cons_succ, i64_w, i32_w]; rfl
                refine pure_ (i := 2) (N := some 71) (v := ?_) (a' := ?_) #[true, false, true, false, false, false] rfl rfl (by kernel_rfl) (fun _ _ _ h => h) (Or.inl ⟨by rfl, ?_⟩) ?_ ?_
                rotate_left
                ·intro w'; go_simp; with_reducible rfl
                rotate_left
                ·simp only [Act.put, List.setIfInBounds_toArray, List.set_cons_zero, List.set_cons_succ, i64_w, i32_w]; rfl
                refine pure_ (i := 3) (N := some 72) (v := ?_) (a' := ?_) #[true, false, true, true, false, false] rfl rfl (by kernel_rfl) (fun _ _ _ h => h) (Or.inl ⟨by rfl, ?_⟩) ?_ ?_
                rotate_left
                ·intro w'; go_simp; with_reducible rfl
                rotate_left
                ·simp only [Act.put, List.setIfInBounds_toArray, List.set_cons_zero, List.set_cons_succ, i64_w, i32_w]; rfl
                refine take_ (i := 4) (N := some 73) (v := ?_) (a' := ?_) #[true, false, true, true, true, false] rfl rfl (by kernel_rfl) (fun _ _ _ h => h) (Or.inl ⟨by rfl, ?_⟩) hHeld ?_ ?_
                rotate_left
                ·intro w' s0; go_simp; with_reducible rfl
                rotate_left
                ·simp only [Act.put, List.setIfInBounds_toArray, List.set_cons_zero, List.set_cons_succ, i64_w, i32_w]; rfl
                refine one_ (i := 1) (N := some 70) #[true, true, true, true, true, false] rfl rfl (by kernel_rfl) (by decide) (fun K hK => ?_)
                refine goes_ Try.func38 (by kernel_rfl) rfl #[.slice (some ad220) yq_.length (c1_1 - x10_1.toNat)] (by rfl) rfl rfl (by (try simp only [List.map_toArray, List.map_cons, List.map_nil]); first | done | (rw [show yq_.length = ((wrap64 (x10_1 + 8)).toNat - x10_1.toNat) from (by rw [List.length_drop, List.length_take]; have h_ : ((wrap64 (x10_1 + 8)) : Int) ≤ (l1_1.length : Int) := of_decide_eq_true (by first | (with_reducible assumption) | assumption); omega)] <;> rfl) | rfl | (simp only [List.length_drop, List.length_take]; rfl)) ?_
                with_reducible refine (gimbalref8_Check.calls k1 _ _ yq_ t219 _ ?side1 ?side2 A132.out).mono ?_
                (case side1 => repeat (first | exact (Kd.C_below HR218.out HB.out) | (with_reducible refine Kd.C_alloc ?_ _) | (with_reducible refine Kd.C_drewN ?_ _) | (with_reducible refine Kd.C_drew ?_)))
                (case side2 => exact HC218.out)
                rintro e w' ⟨rfl, ⟨nd, rfl⟩⟩
                refine ⟨_, rfl, ?_⟩
                refine hK.out _ _ (((HB.out.cell (World.block_lt_of_cell? w _ hw220_0)).trans hw220_0)) (fun hHeld => ?_)
                clear hK K
                refine norm_ (a' := ?_) ?_ ?_
                rotate_left
                ·show Act.put _ (some 70) _ = _; simp only [Act.put, List.setIfInBounds_toArray, List.set_cons_zero, List.set_cons_succ, i64_w, i32_w]; rfl
                refine pure_ (i := 5) (N := some 74) (v := ?_) (a' := ?_) #[true, true, true, true, true, true] rfl rfl (by kernel_rfl) (fun _ _ _ h => h) (Or.inl ⟨by rfl, ?_⟩) ?_ ?_
                rotate_left
                ·intro w'; go_simp; with_reducible rfl
                rotate_left
                ·simp only [Act.put, List.setIfInBounds_toArray, List.set_cons_zero, List.set_cons_succ, i64_w, i32_w]; rfl
                refine done_ (by kernel_rfl) ?_
                (try (rw [drewN_self w160]; generalize hq_ : World.drewN w160 _ = w160; have n0_ : Aside0 (Kd.R (Kd.int .u8) 5 w160 w.heap.size (fun _ => True) (.slice Ao122 t196.length co122) t196) := ⟨by rw [← hq_]; exact (Sq.rR HO_202002.out)⟩; have n1_ : Aside0 (Kd.R k55 55 w160 w.heap.size (fun _ => True) u9 x9_1) := ⟨by rw [← hq_]; exact (Sq.rR HO_9.out)⟩; have n2_ : Aside0 (w160.heap[gb191]? = some (.cells #[.int .i64 a0_0, .int .i64 a0_1, .bool a0_2, .int .i64 a0_3, .int .i64 a0_4, .int .i64 0, .bool a0_6, .int .i64 a0_7, .int .i64 x192008_1] 24 (0, 0))) := ⟨by rw [← hq_]; exact (Sq.b BK191.out)⟩; have n3_ : Aside0 (w160.heap[gb192]? = some (.cells #[.int .i64 a1_0, .slice A1_1 l1_1.length c1_1] 27 (0, 0))) := ⟨by rw [← hq_]; exact (Sq.b BK192.out)⟩; have n4_ : Aside0 (w160.heap[gb193]? = some (.cells #[.int .i64 0, .int .i64 0, .bool false, .int .i64 0, .int .i64 0, .int .i64 0, .bool false, .int .i64 0, .int .i64 0] 24 (0, 0))) := ⟨by rw [← hq_]; exact (Sq.b BK193.out)⟩; have n5_ : Aside0 (w160.heap[gb201]? = some (.cells #[.int .i64 t194, .int .i64 t195, .slice Ao122 t196.length co122, .int .i64 t199] 31 (0, 0))) := ⟨by rw [← hq_]; exact (Sq.b BK201.out)⟩; have n6_ : Aside0 (Below w.heap.size w w160) := ⟨by rw [← hq_]; exact (Sq.w HB.out)⟩; clear HO_202002 HO_9 BK191 BK192 BK193 BK201 HB hq_; have HO_202002 := n0_; have HO_9 := n1_; have BK191 := n2_; have BK192 := n3_; have BK193 := n4_; have BK201 := n5_; have HB := n6_; clear n0_ n1_ n2_ n3_ n4_ n5_ n6_))
                have b161 := NB191_193.out; have d161 := NB193_191.out; have b162 := NB191_201.out; have d162 := NB201_191.out
                obtain ⟨z163_0, z163_1, z163_2, z163_3, z163_4, z163_5, z163_6, z163_7, z163_8⟩ := Sq.c9 BK191.out
                obtain ⟨y163_0, y163_1, y163_2, y163_3, y163_4, y163_5, y163_6, y163_7, y163_8⟩ := Sq.f9 BK191.out
                try go_wp2
                refine Cu.handed k1 (by have := HK1.out; omega) (by assumption) ?_ (by kernel_rfl) (by kernel_rfl)
                try dsimp only [Cu.pick, Cu.rep, Cu.nth]
                exact ⟨(x9_1), (wrap64 (x10_1 + 8)), (wrap64 (x192008_1 + 1)), Sq.e, H', ⟨by have := HK1.out; omega⟩, ⟨Sq.rR (Kd.R_mono (Kd.R_far (p := ⟨gb191, 8, none⟩) (Kd.R_types HO_9.out BK191.out (by decide)) (fun _ hk => hk.2) (.int .i64 (wrap64 (x192008_1 + 1)))) (fun _ hk => trivial))⟩, ⟨Sq.rR (Kd.R_mono (Kd.R_far (p := ⟨gb191, 8, none⟩) (Kd.R_types HO_202002.out BK191.out (by decide)) (fun _ hk => hk.2) (.int .i64 (wrap64 (x192008_1 + 1)))) (fun _ hk => trivial))⟩, ⟨Sq.B BK191.out⟩, ⟨Sq.F BK192.out⟩, ⟨Sq.F BK193.out⟩, ⟨Sq.F BK201.out⟩, ⟨Sq.w HB.out⟩⟩
               ·rw [if_neg c154] at H
                have c154b0 : decide (x192008_1 < 1099511627776) = false := decide_eq_false c154
                clear c154
                have H' := Aside0.mk H
                clear H; have b164 := NB192_191.out; have d164 := NB191_192.out; have b165 := NB192_193.out; have d165 := NB193_192.out; have b166 := NB192_201.out; have d166 := NB201_192.out
                obtain ⟨z167_0, z167_1⟩ := Sq.c2 BK192.out
                obtain ⟨y167_0, y167_1⟩ := Sq.f2 BK192.out
                obtain ⟨i0168, hi0168, _, hsz168, _⟩ := info_parts info5
                obtain ⟨A168, hcut168, hA168, hC168⟩ := print_mid_of (P := Try.prog) (Value.int .u8) 0 25 5 .i64 .i64 Try.underlying25 hi0168 hsz168 A1_1 c1_1 l1_1 x10_1 (wrap64 (x10_1 + 8)) (of_decide_eq_true (by first | (with_reducible assumption) | assumption)) (by first | omega | exact of_decide_eq_true (by first | (with_reducible assumption) | assumption)) (of_decide_eq_true (by first | (with_reducible assumption) | assumption)) HC1_1.out
                rw [← Nyq_.out] at hcut168 hA168 hC168
                have HR218 := Aside0.mk (Kd.C_of_reads (h1 := fun _ => rfl) (hA168 _ (Kd.reads_of_C HR1_1.out)))
                have HC218 := Aside0.mk hC168
                clear hA168 hC168 hi0168 hsz168
                try go_wp2
                replace HO_9 := Aside0.mk (Kd.R_drew HO_9.out); replace HO_202002 := Aside0.mk (Kd.R_drew HO_202002.out); replace BK191 := Aside0.mk (blk_drew BK191.out); replace BK192 := Aside0.mk (blk_drew BK192.out); replace BK193 := Aside0.mk (blk_drew BK193.out); replace BK201 := Aside0.mk (blk_drew BK201.out); replace HB := Aside0.mk (below_drew1 HB.out)
                have p220 : 0 ≤ (7 : Int) := (by omega)
                have q220 : 7 < (yq_.length : Int) := of_decide_eq_true (by first | (with_reducible assumption) | assumption)
                obtain ⟨ad220, e220, hx220_0⟩ := Kd.at_int HR218.out 7 p220 q220
                have hw220_0 := hx220_0
                (try rw [show ((7 : Int)).toNat = 7 from rfl] at hw220_0)
                (try rw [show 7 * 1 = 7 from rfl] at hw220_0)
                (try simp only [Nat.reduceMul, Nat.reduceEqDiff, Go.Addr.add, ↓reduceIte] at hw220_0)
                cases e220
                (try simp only [show (7 : Int).toNat = 7 from rfl, Nat.reduceMul, Nat.reduceEqDiff, Go.Addr.add, ↓reduceIte] at hx220_0)
                have qi220 : (7 < yq_.length) = True := eq_true (by omega)
                (try rw [show ((7 : Int)).toNat = 7 from rfl] at hx220_0)
                replace hx220_0 := (HB.out.cell (World.block_lt_of_cell? w _ hx220_0)).trans hx220_0
                replace p220 := eq_true p220
                replace q220 := eq_true q220
                refine start_ (n := 6) (S := fun w' => w'.cell? ⟨ad220.block, ad220.off + 7, none⟩ = some (.int .u8 (rd yq_ 7))) (ds := []) #[false, false, false, false, false, false] (by kernel_rfl) rfl rfl (((HB.out.cell (World.block_lt_of_cell? w _ hw220_0)).trans hw220_0)) (fun hHeld => ?_)
                generalize wr.drew = w169 at HO_9 HO_202002 BK191 BK192 BK193 BK201 HB hx220_0 hHeld ⊢
                refine pure_ (i := 0) (N := some 69) (v := ?_) (a' := ?_) #[true, false, false, false, false, false] rfl rfl (by kernel_rfl) (fun _ _ _ h => h) (Or.inl ⟨by rfl, ?_⟩) ?_ ?_
                rotate_left
                ·intro w'; go_simp; with_reducible rfl
                rotate_left
                ·simp only [Act.put, List.setIfInBounds_toArray, List.set_cons_zero, List.set_cons_succ, i64_w, i32_w]; rfl
                refine pure_ (i := 2) (N := some 71) (v := ?_) (a' := ?_) #[true, false, true, false, false, false] rfl rfl (by kernel_rfl) (fun _ _ _ h => h) (Or.inl ⟨by rfl, ?_⟩) ?_ ?_
                rotate_left
                ·intro w'; go_simp; with_reducible rfl
                rotate_left
                ·simp only [Act.put, List.setIfInBounds_toArray, List.set_cons_zero, List.set_cons_succ, i64_w, i32_w]; rfl
                refine pure_ (i := 3) (N := some 72) (v := ?_) (a' := ?_) #[true, false, true, true, false, false] rfl rfl (by kernel_rfl) (fun _ _ _ h => h) (Or.inl ⟨by rfl, ?_⟩) ?_ ?_
                rotate_left
                ·intro w'; go_simp; with_reducible rfl
                rotate_left
                ·simp only [Act.put, List.setIfInBounds_toArray, List.set_cons_zero, List.set_cons_succ, i64_w, i32_w]; rfl
                refine take_ (i := 4) (N := some 73) (v := ?_) (a' := ?_) #[true, false, true, true, true, false] rfl rfl (by kernel_rfl) (fun _ _ _ h => h) (Or.inl ⟨by rfl, ?_⟩) hHeld ?_ ?_
                rotate_left
                ·intro w' s0; go_simp; with_reducible rfl
                rotate_left
                ·simp only [Act.put, List.setIfInBounds_toArray, List.set_cons_zero, List.set_cons_succ, i64_w, i32_w]; rfl
                refine one_ (i := 1) (N := some 70) #[true, true, true, true, true, false] rfl rfl (by kernel_rfl) (by decide) (fun K hK => ?_)
                refine goes_ Try.func38 (by kernel_rfl) rfl #[.slice (some ad220) yq_.length (c1_1 - x10_1.toNat)] (by rfl) rfl rfl (by (try simp only [List.map_toArray, List.map_cons, List.map_nil]); first | done | (rw [show yq_.length = ((wrap64 (x10_1 + 8)).toNat - x10_1.toNat) from (by rw [List.length_drop, List.length_take]; have h_ : ((wrap64 (x10_1 + 8)) : Int) ≤ (l1_1.length : Int) := of_decide_eq_true (by first | (with_reducible assumption) | assumption); omega)] <;> rfl) | rfl | (simp only [List.length_drop, List.length_take]; rfl)) ?_
                with_reducible refine (gimbalref8_Check.calls k1 _ _ yq_ t219 _ ?side1 ?side2 A132.out).mono ?_
                (case side1 => repeat (first | exact (Kd.C_below HR218.out HB.out) | (with_reducible refine Kd.C_alloc ?_ _) | (with_reducible refine Kd.C_drewN ?_ _) | (with_reducible refine Kd.C_drew ?_)))
                (case side2 => exact HC218.out)
                rintro e w' ⟨rfl, ⟨nd, rfl⟩⟩
                refine ⟨_, rfl, ?_⟩
                refine hK.out _ _ (((HB.out.cell (World.block_lt_of_cell? w _ hw220_0)).trans hw220_0)) (fun hHeld => ?_)
                clear hK K
                refine norm_ (a' := ?_) ?_ ?_
                rotate_left
                ·show Act.put _ (some 70) _ = _; simp only [Act.put, List.setIfInBounds_toArray, List.set_cons_zero, List.set_cons_succ, i64_w, i32_w]; rfl
                refine pure_ (i := 5) (N := some 74) (v := ?_) (a' := ?_) #[true, true, true, true, true, true] rfl rfl (by kernel_rfl) (fun _ _ _ h => h) (Or.inl ⟨by rfl, ?_⟩) ?_ ?_
                rotate_left
                ·intro w'; go_simp; with_reducible rfl
                rotate_left
                ·simp only [Act.put, List.setIfInBounds_toArray, List.set_cons_zero, List.set_cons_succ, i64_w, i32_w]; rfl
                refine done_ (by kernel_rfl) ?_
                (try (rw [drewN_self w169]; generalize hq_ : World.drewN w169 _ = w169; have n0_ : Aside0 (Kd.R (Kd.int .u8) 5 w169 w.heap.size (fun _ => True) (.slice Ao122 t196.length co122) t196) := ⟨by rw [← hq_]; exact (Sq.rR HO_202002.out)⟩; have n1_ : Aside0 (Kd.R k55 55 w169 w.heap.size (fun _ => True) u9 x9_1) := ⟨by rw [← hq_]; exact (Sq.rR HO_9.out)⟩; have n2_ : Aside0 (w169.heap[gb191]? = some (.cells #[.int .i64 a0_0, .int .i64 a0_1, .bool a0_2, .int .i64 a0_3, .int .i64 a0_4, .int .i64 0, .bool a0_6, .int .i64 a0_7, .int .i64 x192008_1] 24 (0, 0))) := ⟨by rw [← hq_]; exact (Sq.b BK191.out)⟩; have n3_ : Aside0 (w169.heap[gb192]? = some (.cells #[.int .i64 a1_0, .slice A1_1 l1_1.length c1_1] 27 (0, 0))) := ⟨by rw [← hq_]; exact (Sq.b BK192.out)⟩; have n4_ : Aside0 (w169.heap[gb193]? = some (.cells #[.int .i64 0, .int .i64 0, .bool false, .int .i64 0, .int .i64 0, .int .i64 0, .bool false, .int .i64 0, .int .i64 0] 24 (0, 0))) := ⟨by rw [← hq_]; exact (Sq.b BK193.out)⟩; have n5_ : Aside0 (w169.heap[gb201]? = some (.cells #[.int .i64 t194, .int .i64 t195, .slice Ao122 t196.length co122, .int .i64 t199] 31 (0, 0))) := ⟨by rw [← hq_]; exact (Sq.b BK201.out)⟩; have n6_ : Aside0 (Below w.heap.size w w169) := ⟨by rw [← hq_]; exact (Sq.w HB.out)⟩; clear HO_202002 HO_9 BK191 BK192 BK193 BK201 HB hq_; have HO_202002 := n0_; have HO_9 := n1_; have BK191 := n2_; have BK192 := n3_; have BK193 := n4_; have BK201 := n5_; have HB := n6_; clear n0_ n1_ n2_ n3_ n4_ n5_ n6_))
                have b170 := NB191_193.out; have d170 := NB193_191.out; have b171 := NB191_201.out; have d171 := NB201_191.out
                obtain ⟨z172_0, z172_1, z172_2, z172_3, z172_4, z172_5, z172_6, z172_7, z172_8⟩ := Sq.c9 BK191.out
                obtain ⟨y172_0, y172_1, y172_2, y172_3, y172_4, y172_5, y172_6, y172_7, y172_8⟩ := Sq.f9 BK191.out
                try go_wp2
                refine Cu.handed k1 (by have := HK1.out; omega) (by assumption) ?_ (by kernel_rfl) (by kernel_rfl)
                try dsimp only [Cu.pick, Cu.rep, Cu.nth]
                exact ⟨(x9_1), (wrap64 (x10_1 + 8)), (x192008_1), Sq.e, H', ⟨by have := HK1.out; omega⟩, ⟨Sq.rR HO_9.out⟩, ⟨Sq.rR HO_202002.out⟩, ⟨Sq.b BK191.out⟩, ⟨Sq.b BK192.out⟩, ⟨Sq.b BK193.out⟩, ⟨Sq.b BK201.out⟩, ⟨Sq.w HB.out⟩⟩
             ·rw [if_neg c133] at H
              exact absurd H (by simp)
            ·rw [if_neg c131] at H
             exact absurd H (by simp)
           ·rw [if_neg c130] at H
            exact absurd H (by simp)
          ·rw [if_neg c129] at H
           exact absurd H (by simp)
         ·rw [if_neg c128] at H
          have c128b0 : decide (x10_1 < (l1_1.length : Int)) = false := decide_eq_false c128
          clear c128
          simp only [Option.some.injEq, Prod.mk.injEq] at H
          obtain ⟨rfl, rfl, rfl, rfl, rfl, rfl, rfl, rfl, rfl, rfl, rfl⟩ := H
          have b173 := NB192_191.out; have d173 := NB191_192.out; have b174 := NB192_193.out; have d174 := NB193_192.out; have b175 := NB192_201.out; have d175 := NB201_192.out
          obtain ⟨z176_0, z176_1⟩ := Sq.c2 BK192.out
          obtain ⟨y176_0, y176_1⟩ := Sq.f2 BK192.out
          have b177 := NB191_193.out; have d177 := NB193_191.out; have b178 := NB191_201.out; have d178 := NB201_191.out
          obtain ⟨z179_0, z179_1, z179_2, z179_3, z179_4, z179_5, z179_6, z179_7, z179_8⟩ := Sq.c9 BK191.out
          obtain ⟨y179_0, y179_1, y179_2, y179_3, y179_4, y179_5, y179_6, y179_7, y179_8⟩ := Sq.f9 BK191.out
          have b180 := NB193_201.out; have d180 := NB201_193.out
          obtain ⟨z181_0, z181_1, z181_2, z181_3, z181_4, z181_5, z181_6, z181_7, z181_8⟩ := Sq.c9 BK193.out
          obtain ⟨y181_0, y181_1, y181_2, y181_3, y181_4, y181_5, y181_6, y181_7, y181_8⟩ := Sq.f9 BK193.out
          go_wp2
          refine bodyPost_ret (results_ctt rfl _ _ gb193 24 #[.int .i64 a0_0, .int .i64 a0_1, .bool a0_2, .int .i64 a0_3, .int .i64 4, .int .i64 0, .bool a0_6, .int .i64 0, .int .i64 x192008_1] (0, 0) _ rfl (Sq.B BK193.out) Try.underlying24 rfl (by kernel_rfl)) rfl ?_
          exact ⟨_, by first | rfl | (simp [errW_none, errW_some] <;> rfl) | (simp [*, errW_none, errW_some] <;> rfl), by (with_reducible repeat (first | apply Kd.R_alloc | apply Kd.R_drewN | apply Kd.R_drew)); exact Kd.R_mono (Kd.R_far (p := ⟨gb193, 8, none⟩) (Kd.R_far (p := ⟨gb193, 7, none⟩) (Kd.R_far (p := ⟨gb193, 6, none⟩) (Kd.R_far (p := ⟨gb193, 5, none⟩) (Kd.R_far (p := ⟨gb193, 4, none⟩) (Kd.R_far (p := ⟨gb193, 3, none⟩) (Kd.R_far (p := ⟨gb193, 2, none⟩) (Kd.R_far (p := ⟨gb193, 1, none⟩) (Kd.R_far (p := ⟨gb193, 0, none⟩) (Kd.R_far (p := ⟨gb191, 7, none⟩) (Kd.R_far (p := ⟨gb191, 4, none⟩) (Kd.R_types (Kd.R_types HO_9.out BK191.out (by decide)) BK193.out (by decide)) (fun _ hk => hk.1.2) (.int .i64 4)) (fun _ hk => hk.1.2) (.int .i64 0)) (fun _ hk => hk.2) (.int .i64 a0_0)) (fun _ hk => hk.2) (.int .i64 a0_1)) (fun _ hk => hk.2) (.bool a0_2)) (fun _ hk => hk.2) (.int .i64 a0_3)) (fun _ hk => hk.2) (.int .i64 4)) (fun _ hk => hk.2) (.int .i64 0)) (fun _ hk => hk.2) (.bool a0_6)) (fun _ hk => hk.2) (.int .i64 0)) (fun _ hk => hk.2) (.int .i64 x192008_1)) (fun _ hk => trivial), Sq.w HB.out⟩
      ·rw [if_neg c109] at H
       have c109b0 : (a0_4 == 5) = false := beq_eq_false_iff_ne.mpr c109
       have c109b1 : (a0_4 != 5) = true := bne_iff_ne.mpr c109
       by_cases c182 : a0_4 = 6
       ·rw [if_pos c182] at H
        have c182b0 : (a0_4 == 6) = true := beq_iff_eq.mpr c182
        have c182b1 : (a0_4 != 6) = false := bne_eq_false_iff_eq.mpr c182
        clear c182
        simp only [Option.some.injEq, Prod.mk.injEq] at H
        obtain ⟨rfl, rfl, rfl, rfl, rfl, rfl, rfl, rfl, rfl, rfl, rfl⟩ := H
        go_enter Try.func23, Try.ntmps23
        go_wp2_with (first | ((with_reducible refine gate_dst (N := 2) rfl ?_); refine box_event ?hg (N := 2) ?hd (cs := #[.int .i64 a0_0, .int .i64 a0_1, .bool a0_2, .int .i64 a0_3, .int .i64 a0_4, .int .i64 a0_5, .bool a0_6, .int .i64 a0_7, .int .i64 a0_8]) (t := 24) ?hr ?_; (case hd => rfl); (case hg => rfl); (case hr => first | (go_simp; done) | (go_simp; rfl)); intro gb191 hg w183 hbox hb; have BK191 := Aside0.mk hbox; have GW191 := Sq.ge hg HB; have GE191 := Sq.ge hg HB; replace HB := Sq.sw HB hb; clear hb hbox hg) | ((with_reducible refine gate_dst (N := 3) rfl ?_); refine box_event ?hg (N := 3) ?hd (cs := #[.int .i64 a1_0, .slice A1_1 l1_1.length c1_1]) (t := 27) ?hr ?_; (case hd => rfl); (case hg => rfl); (case hr => first | (go_simp; done) | (go_simp; rfl)); intro gb192 hg w184 hbox hb; have BK192 := Aside0.mk hbox; have GW192 := Sq.ge hg HB; have GE192 := Sq.ge hg HB; obtain ⟨NB191_192, NB192_191⟩ := Sq.np hg BK191; replace BK191 := Sq.sb BK191 hb; replace HB := Sq.sw HB hb; clear hb hbox hg) | ((with_reducible refine gate_dst (N := 4) rfl ?_); refine box_event ?hg (N := 4) ?hd (cs := #[.int .i64 0, .int .i64 0, .bool false, .int .i64 0, .int .i64 0, .int .i64 0, .bool false, .int .i64 0, .int .i64 0]) (t := 24) ?hr ?_; (case hd => rfl); (case hg => rfl); (case hr => first | (go_simp; done) | (go_simp; rfl)); intro gb193 hg w185 hbox hb; have BK193 := Aside0.mk hbox; have GW193 := Sq.ge hg HB; have GE193 := Sq.ge hg HB; obtain ⟨NB191_193, NB193_191⟩ := Sq.np hg BK191; obtain ⟨NB192_193, NB193_192⟩ := Sq.np hg BK192; replace BK191 := Sq.sb BK191 hb; replace BK192 := Sq.sb BK192 hb; replace HB := Sq.sw HB hb; clear hb hbox hg; have b186 := NB191_192.out; have d186 := NB192_191.out; have b187 := NB191_193.out; have d187 := NB193_191.out; obtain ⟨z188_0, z188_1, z188_2, z188_3, z188_4, z188_5, z188_6, z188_7, z188_8⟩ := Sq.c9 BK191.out; obtain ⟨y188_0, y188_1, y188_2, y188_3, y188_4, y188_5, y188_6, y188_7, y188_8⟩ := Sq.f9 BK191.out) | ((with_reducible refine gate_callee (f := 22) rfl ?_); refine goesL_ (some 14) rfl rfl Try.func22 (by kernel_rfl) rfl #[.agg #[.int .i64 a0_0, .int .i64 a0_1, .bool a0_2, .int .i64 a0_3, .int .i64 a0_4, .int .i64 a0_5, .bool a0_6, .int .i64 a0_7, .int .i64 a0_8]] rfl Sq.m ?_; (with_reducible refine (gimbalref9_Next.calls a0_0 a0_1 a0_2 a0_3 a0_4 a0_5 a0_6 a0_7 a0_8 t194 t195 t196 t199 t200 _ A3.out).mono ?_); rintro e w189 ⟨v197, rfl, ho0, hb⟩; refine ⟨_, rfl, ?_⟩; have HO198 := Aside0.mk (Kd.R_lower ho0 (below_size (Sq.w HB.out))); replace BK191 := Sq.sb BK191 hb; replace BK192 := Sq.sb BK192 hb; replace BK193 := Sq.sb BK193 hb; replace HB := Sq.sw HB hb; (try clear hb); (try clear hb2); (try clear hk); (try clear hi); (try clear ho0)) | ((with_reducible refine gate_dst (N := 7) rfl ?_); refine box_event ?hg (N := 7) ?hd (cs := #[.int .i64 0, .int .i64 0, .slice none 0 0, .int .i64 0]) (t := 31) ?hr ?_; (case hd => rfl); (case hg => rfl); (case hr => first | (go_simp; done) | (go_simp; rfl)); intro gb201 hg w190 hbox hb; have BK201 := Aside0.mk hbox; have GW201 := Sq.ge hg HB; have GE201 := Sq.ge hg HB; obtain ⟨NB191_201, NB201_191⟩ := Sq.np hg BK191; obtain ⟨NB192_201, NB201_192⟩ := Sq.np hg BK192; obtain ⟨NB193_201, NB201_193⟩ := Sq.np hg BK193; replace HO198 := Sq.sR HO198 hb; replace BK191 := Sq.sb BK191 hb; replace BK192 := Sq.sb BK192 hb; replace BK193 := Sq.sb BK193 hb; replace HB := Sq.sw HB hb; clear hb hbox hg; have b191 := NB201_191.out; have d191 := NB191_201.out; have b192 := NB201_192.out; have d192 := NB192_201.out; have b193 := NB201_193.out; have d193 := NB193_201.out; obtain ⟨z194_0, z194_1, z194_2, z194_3⟩ := Sq.c4 BK201.out; obtain ⟨y194_0, y194_1, y194_2, y194_3⟩ := Sq.f4 BK201.out; obtain ⟨Ao195, co195, eo195⟩ := Kd.R_slice HO198.out; subst eo195; obtain ⟨z196_0, z196_1, z196_2, z196_3, z196_4, z196_5, z196_6, z196_7, z196_8⟩ := Sq.c9 BK191.out; obtain ⟨y196_0, y196_1, y196_2, y196_3, y196_4, y196_5, y196_6, y196_7, y196_8⟩ := Sq.f9 BK191.out; have b197 := NB192_193.out; have d197 := NB193_192.out; obtain ⟨z198_0, z198_1⟩ := Sq.c2 BK192.out; obtain ⟨y198_0, y198_1⟩ := Sq.f2 BK192.out) | ((with_reducible refine gate_callee (f := 39) rfl ?_); refine goesL_ (some 20) rfl rfl Try.func39 (by kernel_rfl) rfl #[.agg #[.int .i64 a0_0, .int .i64 a0_1, .bool a0_2, .int .i64 a0_3, .int .i64 a0_4, .int .i64 a0_5, .bool a0_6, .int .i64 a0_7, .int .i64 a0_8], .agg #[.int .i64 t194, .int .i64 t195, .slice Ao195 t196.length co195, .int .i64 t199], .agg #[.int .i64 a1_0, .slice A1_1 l1_1.length c1_1]] rfl Sq.m ?_; (with_reducible refine (gimbalref9_good.calls k a0_0 a0_1 a0_2 a0_3 a0_4 a0_5 a0_6 a0_7 a0_8 t194 t195 _ _ t196 t199 a1_0 _ _ l1_1 true _ ?side1 ?side2 ?side3 ?side4 A4.out).mono ?_); (case side1 => refine (Kd.R_reads' (e := 5) (base := w.heap.size) (ok := fun k_ => True) (n := t196.length) (c := co195) ?_).2.2; exact (Sq.xR HO198.out BK201.out)); (case side2 => exact (Kd.R_reads' HO198.out).2.1); (case side3 => exact Kd.C_below HR1_1.out (Sq.w HB.out)); (case side4 => exact HC1_1.out); rintro e w199 ⟨rfl, hb⟩; refine ⟨_, rfl, ?_⟩; replace HO198 := Sq.yR HO198 BK201 hb; replace BK191 := Sq.sF BK191 hb; replace BK192 := Sq.sF BK192 hb; replace BK193 := Sq.sF BK193 hb; replace BK201 := Aside0.mk (blk_below (g := gb201) (o := .cells #[.int .i64 t194, .int .i64 t195, .slice Ao195 t196.length co195, .int .i64 t199] 31 (0, 0)) (Sq.B BK201.out) hb); replace HB := Sq.sw HB hb; (try clear hb); (try clear hb2); (try clear hk); (try clear hi); obtain ⟨z200_0, z200_1, z200_2, z200_3, z200_4, z200_5, z200_6, z200_7, z200_8⟩ := Sq.c9 BK191.out; obtain ⟨y200_0, y200_1, y200_2, y200_3, y200_4, y200_5, y200_6, y200_7, y200_8⟩ := Sq.f9 BK191.out; obtain ⟨z201_0, z201_1, z201_2, z201_3, z201_4, z201_5, z201_6, z201_7, z201_8⟩ := Sq.c9 BK193.out; obtain ⟨y201_0, y201_1, y201_2, y201_3, y201_4, y201_5, y201_6, y201_7, y201_8⟩ := Sq.f9 BK193.out))
        refine bodyPost_ret (results_ctt rfl _ _ gb193 24 #[.int .i64 a0_0, .int .i64 a0_1, .bool a0_2, .int .i64 a0_3, .int .i64 0, .int .i64 0, .bool false, .int .i64 a0_7, .int .i64 a0_8] (0, 0) _ rfl (Sq.B BK193.out) Try.underlying24 rfl (by kernel_rfl)) rfl ?_
        exact ⟨_, by first | rfl | (simp [errW_none, errW_some] <;> rfl) | (simp [*, errW_none, errW_some] <;> rfl), by first | exact Kd.R_nil _ _ _ _ _ | exact Kd.N_nil _ _ _ _ _ | exact Kd.V_nil _ _ _ _ _ | exact Kd.Q_nil _ _ _ _ _ | exact Kd.S_nil _ _ _ _ _, Sq.w HB.out⟩
       ·rw [if_neg c182] at H
        have c182b0 : (a0_4 == 6) = false := beq_eq_false_iff_ne.mpr c182
        have c182b1 : (a0_4 != 6) = true := bne_iff_ne.mpr c182
        by_cases c202 : a0_4 = 7
        ·rw [if_pos c202] at H
         have c202b0 : (a0_4 == 7) = true := beq_iff_eq.mpr c202
         have c202b1 : (a0_4 != 7) = false := bne_eq_false_iff_eq.mpr c202
         clear c202
         by_cases c203 : a0_2 = true
         ·subst c203
          have H1 : (some (a0_0, a0_1, true, a0_3, 1, 0, true, a0_7, a0_8, ([] : List (S55)), false)) = some (r1, r2, r3, r4, r5, r6, r7, r8, r9, r10, r11) := by rw [if_pos rfl] at H; exact H
          clear H
          have H := H1
          clear H1
          simp only [Option.some.injEq, Prod.mk.injEq] at H
          obtain ⟨rfl, rfl, rfl, rfl, rfl, rfl, rfl, rfl, rfl, rfl, rfl⟩ := H
          have htw_ := @Tw.setCell_twice
          go_enter Try.func23, Try.ntmps23
          go_wp2_with (first | ((with_reducible refine gate_dst (N := 2) rfl ?_); refine box_event ?hg (N := 2) ?hd (cs := #[.int .i64 a0_0, .int .i64 a0_1, .bool true, .int .i64 a0_3, .int .i64 a0_4, .int .i64 a0_5, .bool a0_6, .int .i64 a0_7, .int .i64 a0_8]) (t := 24) ?hr ?_; (case hd => rfl); (case hg => rfl); (case hr => first | (go_simp; done) | (go_simp; rfl)); intro gb191 hg w204 hbox hb; have BK191 := Aside0.mk hbox; have GW191 := Sq.ge hg HB; have GE191 := Sq.ge hg HB; replace HB := Sq.sw HB hb; clear hb hbox hg) | ((with_reducible refine gate_dst (N := 3) rfl ?_); refine box_event ?hg (N := 3) ?hd (cs := #[.int .i64 a1_0, .slice A1_1 l1_1.length c1_1]) (t := 27) ?hr ?_; (case hd => rfl); (case hg => rfl); (case hr => first | (go_simp; done) | (go_simp; rfl)); intro gb192 hg w205 hbox hb; have BK192 := Aside0.mk hbox; have GW192 := Sq.ge hg HB; have GE192 := Sq.ge hg HB; obtain ⟨NB191_192, NB192_191⟩ := Sq.np hg BK191; replace BK191 := Sq.sb BK191 hb; replace HB := Sq.sw HB hb; clear hb hbox hg) | ((with_reducible refine gate_dst (N := 4) rfl ?_); refine box_event ?hg (N := 4) ?hd (cs := #[.int .i64 0, .int .i64 0, .bool false, .int .i64 0, .int .i64 0, .int .i64 0, .bool false, .int .i64 0, .int .i64 0]) (t := 24) ?hr ?_; (case hd => rfl); (case hg => rfl); (case hr => first | (go_simp; done) | (go_simp; rfl)); intro gb193 hg w206 hbox hb; have BK193 := Aside0.mk hbox; have GW193 := Sq.ge hg HB; have GE193 := Sq.ge hg HB; obtain ⟨NB191_193, NB193_191⟩ := Sq.np hg BK191; obtain ⟨NB192_193, NB193_192⟩ := Sq.np hg BK192; replace BK191 := Sq.sb BK191 hb; replace BK192 := Sq.sb BK192 hb; replace HB := Sq.sw HB hb; clear hb hbox hg; have b207 := NB191_192.out; have d207 := NB192_191.out; have b208 := NB191_193.out; have d208 := NB193_191.out; obtain ⟨z209_0, z209_1, z209_2, z209_3, z209_4, z209_5, z209_6, z209_7, z209_8⟩ := Sq.c9 BK191.out; obtain ⟨y209_0, y209_1, y209_2, y209_3, y209_4, y209_5, y209_6, y209_7, y209_8⟩ := Sq.f9 BK191.out) | ((with_reducible refine gate_callee (f := 22) rfl ?_); refine goesL_ (some 14) rfl rfl Try.func22 (by kernel_rfl) rfl #[.agg #[.int .i64 a0_0, .int .i64 a0_1, .bool true, .int .i64 a0_3, .int .i64 a0_4, .int .i64 a0_5, .bool a0_6, .int .i64 a0_7, .int .i64 a0_8]] rfl Sq.m ?_; (with_reducible refine (gimbalref9_Next.calls a0_0 a0_1 true a0_3 a0_4 a0_5 a0_6 a0_7 a0_8 t194 t195 t196 t199 t200 _ A3.out).mono ?_); rintro e w210 ⟨v197, rfl, ho0, hb⟩; refine ⟨_, rfl, ?_⟩; have HO198 := Aside0.mk (Kd.R_lower ho0 (below_size (Sq.w HB.out))); replace BK191 := Sq.sb BK191 hb; replace BK192 := Sq.sb BK192 hb; replace BK193 := Sq.sb BK193 hb; replace HB := Sq.sw HB hb; (try clear hb); (try clear hb2); (try clear hk); (try clear hi); (try clear ho0)) | ((with_reducible refine gate_dst (N := 7) rfl ?_); refine box_event ?hg (N := 7) ?hd (cs := #[.int .i64 0, .int .i64 0, .slice none 0 0, .int .i64 0]) (t := 31) ?hr ?_; (case hd => rfl); (case hg => rfl); (case hr => first | (go_simp; done) | (go_simp; rfl)); intro gb201 hg w211 hbox hb; have BK201 := Aside0.mk hbox; have GW201 := Sq.ge hg HB; have GE201 := Sq.ge hg HB; obtain ⟨NB191_201, NB201_191⟩ := Sq.np hg BK191; obtain ⟨NB192_201, NB201_192⟩ := Sq.np hg BK192; obtain ⟨NB193_201, NB201_193⟩ := Sq.np hg BK193; replace HO198 := Sq.sR HO198 hb; replace BK191 := Sq.sb BK191 hb; replace BK192 := Sq.sb BK192 hb; replace BK193 := Sq.sb BK193 hb; replace HB := Sq.sw HB hb; clear hb hbox hg; have b212 := NB201_191.out; have d212 := NB191_201.out; have b213 := NB201_192.out; have d213 := NB192_201.out; have b214 := NB201_193.out; have d214 := NB193_201.out; obtain ⟨z215_0, z215_1, z215_2, z215_3⟩ := Sq.c4 BK201.out; obtain ⟨y215_0, y215_1, y215_2, y215_3⟩ := Sq.f4 BK201.out; obtain ⟨Ao216, co216, eo216⟩ := Kd.R_slice HO198.out; subst eo216; obtain ⟨z217_0, z217_1, z217_2, z217_3, z217_4, z217_5, z217_6, z217_7, z217_8⟩ := Sq.c9 BK191.out; obtain ⟨y217_0, y217_1, y217_2, y217_3, y217_4, y217_5, y217_6, y217_7, y217_8⟩ := Sq.f9 BK191.out; have b218 := NB192_193.out; have d218 := NB193_192.out; obtain ⟨z219_0, z219_1⟩ := Sq.c2 BK192.out; obtain ⟨y219_0, y219_1⟩ := Sq.f2 BK192.out) | ((with_reducible refine gate_callee (f := 39) rfl ?_); refine goesL_ (some 20) rfl rfl Try.func39 (by kernel_rfl) rfl #[.agg #[.int .i64 a0_0, .int .i64 a0_1, .bool true, .int .i64 a0_3, .int .i64 a0_4, .int .i64 a0_5, .bool a0_6, .int .i64 a0_7, .int .i64 a0_8], .agg #[.int .i64 t194, .int .i64 t195, .slice Ao216 t196.length co216, .int .i64 t199], .agg #[.int .i64 a1_0, .slice A1_1 l1_1.length c1_1]] rfl Sq.m ?_; (with_reducible refine (gimbalref9_good.calls k a0_0 a0_1 true a0_3 a0_4 a0_5 a0_6 a0_7 a0_8 t194 t195 _ _ t196 t199 a1_0 _ _ l1_1 true _ ?side1 ?side2 ?side3 ?side4 A4.out).mono ?_); (case side1 => refine (Kd.R_reads' (e := 5) (base := w.heap.size) (ok := fun k_ => True) (n := t196.length) (c := co216) ?_).2.2; exact (Sq.xR HO198.out BK201.out)); (case side2 => exact (Kd.R_reads' HO198.out).2.1); (case side3 => exact Kd.C_below HR1_1.out (Sq.w HB.out)); (case side4 => exact HC1_1.out); rintro e w220 ⟨rfl, hb⟩; refine ⟨_, rfl, ?_⟩; replace HO198 := Sq.yR HO198 BK201 hb; replace BK191 := Sq.sF BK191 hb; replace BK192 := Sq.sF BK192 hb; replace BK193 := Sq.sF BK193 hb; replace BK201 := Aside0.mk (blk_below (g := gb201) (o := .cells #[.int .i64 t194, .int .i64 t195, .slice Ao216 t196.length co216, .int .i64 t199] 31 (0, 0)) (Sq.B BK201.out) hb); replace HB := Sq.sw HB hb; (try clear hb); (try clear hb2); (try clear hk); (try clear hi); obtain ⟨z221_0, z221_1, z221_2, z221_3, z221_4, z221_5, z221_6, z221_7, z221_8⟩ := Sq.c9 BK191.out; obtain ⟨y221_0, y221_1, y221_2, y221_3, y221_4, y221_5, y221_6, y221_7, y221_8⟩ := Sq.f9 BK191.out; obtain ⟨z222_0, z222_1, z222_2, z222_3, z222_4, z222_5, z222_6, z222_7, z222_8⟩ := Sq.c9 BK193.out; obtain ⟨y222_0, y222_1, y222_2, y222_3, y222_4, y222_5, y222_6, y222_7, y222_8⟩ := Sq.f9 BK193.out))
          refine bodyPost_ret (results_ctt rfl _ _ gb193 24 #[.int .i64 a0_0, .int .i64 a0_1, .bool true, .int .i64 a0_3, .int .i64 1, .int .i64 0, .bool true, .int .i64 a0_7, .int .i64 a0_8] (0, 0) _ rfl (Sq.B BK193.out) Try.underlying24 rfl (by kernel_rfl)) rfl ?_
          exact ⟨_, by first | rfl | (simp [errW_none, errW_some] <;> rfl) | (simp [*, errW_none, errW_some] <;> rfl), by first | exact Kd.R_nil _ _ _ _ _ | exact Kd.N_nil _ _ _ _ _ | exact Kd.V_nil _ _ _ _ _ | exact Kd.Q_nil _ _ _ _ _ | exact Kd.S_nil _ _ _ _ _, Sq.w HB.out⟩
         ·replace c203 := Bool.eq_false_iff.mpr c203
          subst c203
          have H1 : (some (a0_0, a0_1, false, a0_3, 6, 0, true, a0_7, a0_8, ([] : List (S55)), false)) = some (r1, r2, r3, r4, r5, r6, r7, r8, r9, r10, r11) := by rw [if_neg (show ¬ (false = true) by decide)] at H; exact H
          clear H
          have H := H1
          clear H1
          simp only [Option.some.injEq, Prod.mk.injEq] at H
          obtain ⟨rfl, rfl, rfl, rfl, rfl, rfl, rfl, rfl, rfl, rfl, rfl⟩ := H
          go_enter Try.func23, Try.ntmps23
          go_wp2_with (first | ((with_reducible refine gate_dst (N := 2) rfl ?_); refine box_event ?hg (N := 2) ?hd (cs := #[.int .i64 a0_0, .int .i64 a0_1, .bool false, .int .i64 a0_3, .int .i64 a0_4, .int .i64 a0_5, .bool a0_6, .int .i64 a0_7, .int .i64 a0_8]) (t := 24) ?hr ?_; (case hd => rfl); (case hg => rfl); (case hr => first | (go_simp; done) | (go_simp; rfl)); intro gb191 hg w223 hbox hb; have BK191 := Aside0.mk hbox; have GW191 := Sq.ge hg HB; have GE191 := Sq.ge hg HB; replace HB := Sq.sw HB hb; clear hb hbox hg) | ((with_reducible refine gate_dst (N := 3) rfl ?_); refine box_event ?hg (N := 3) ?hd (cs := #[.int .i64 a1_0, .slice A1_1 l1_1.length c1_1]) (t := 27) ?hr ?_; (case hd => rfl); (case hg => rfl); (case hr => first | (go_simp; done) | (go_simp; rfl)); intro gb192 hg w224 hbox hb; have BK192 := Aside0.mk hbox; have GW192 := Sq.ge hg HB; have GE192 := Sq.ge hg HB; obtain ⟨NB191_192, NB192_191⟩ := Sq.np hg BK191; replace BK191 := Sq.sb BK191 hb; replace HB := Sq.sw HB hb; clear hb hbox hg) | ((with_reducible refine gate_dst (N := 4) rfl ?_); refine box_event ?hg (N := 4) ?hd (cs := #[.int .i64 0, .int .i64 0, .bool false, .int .i64 0, .int .i64 0, .int .i64 0, .bool false, .int .i64 0, .int .i64 0]) (t := 24) ?hr ?_; (case hd => rfl); (case hg => rfl); (case hr => first | (go_simp; done) | (go_simp; rfl)); intro gb193 hg w225 hbox hb; have BK193 := Aside0.mk hbox; have GW193 := Sq.ge hg HB; have GE193 := Sq.ge hg HB; obtain ⟨NB191_193, NB193_191⟩ := Sq.np hg BK191; obtain ⟨NB192_193, NB193_192⟩ := Sq.np hg BK192; replace BK191 := Sq.sb BK191 hb; replace BK192 := Sq.sb BK192 hb; replace HB := Sq.sw HB hb; clear hb hbox hg; have b226 := NB191_192.out; have d226 := NB192_191.out; have b227 := NB191_193.out; have d227 := NB193_191.out; obtain ⟨z228_0, z228_1, z228_2, z228_3, z228_4, z228_5, z228_6, z228_7, z228_8⟩ := Sq.c9 BK191.out; obtain ⟨y228_0, y228_1, y228_2, y228_3, y228_4, y228_5, y228_6, y228_7, y228_8⟩ := Sq.f9 BK191.out) | ((with_reducible refine gate_callee (f := 22) rfl ?_); refine goesL_ (some 14) rfl rfl Try.func22 (by kernel_rfl) rfl #[.agg #[.int .i64 a0_0, .int .i64 a0_1, .bool false, .int .i64 a0_3, .int .i64 a0_4, .int .i64 a0_5, .bool a0_6, .int .i64 a0_7, .int .i64 a0_8]] rfl Sq.m ?_; (with_reducible refine (gimbalref9_Next.calls a0_0 a0_1 false a0_3 a0_4 a0_5 a0_6 a0_7 a0_8 t194 t195 t196 t199 t200 _ A3.out).mono ?_); rintro e w229 ⟨v197, rfl, ho0, hb⟩; refine ⟨_, rfl, ?_⟩; have HO198 := Aside0.mk (Kd.R_lower ho0 (below_size (Sq.w HB.out))); replace BK191 := Sq.sb BK191 hb; replace BK192 := Sq.sb BK192 hb; replace BK193 := Sq.sb BK193 hb; replace HB := Sq.sw HB hb; (try clear hb); (try clear hb2); (try clear hk); (try clear hi); (try clear ho0)) | ((with_reducible refine gate_dst (N := 7) rfl ?_); refine box_event ?hg (N := 7) ?hd (cs := #[.int .i64 0, .int .i64 0, .slice none 0 0, .int .i64 0]) (t := 31) ?hr ?_; (case hd => rfl); (case hg => rfl); (case hr => first | (go_simp; done) | (go_simp; rfl)); intro gb201 hg w230 hbox hb; have BK201 := Aside0.mk hbox; have GW201 := Sq.ge hg HB; have GE201 := Sq.ge hg HB; obtain ⟨NB191_201, NB201_191⟩ := Sq.np hg BK191; obtain ⟨NB192_201, NB201_192⟩ := Sq.np hg BK192; obtain ⟨NB193_201, NB201_193⟩ := Sq.np hg BK193; replace HO198 := Sq.sR HO198 hb; replace BK191 := Sq.sb BK191 hb; replace BK192 := Sq.sb BK192 hb; replace BK193 := Sq.sb BK193 hb; replace HB := Sq.sw HB hb; clear hb hbox hg; have b231 := NB201_191.out; have d231 := NB191_201.out; have b232 := NB201_192.out; have d232 := NB192_201.out; have b233 := NB201_193.out; have d233 := NB193_201.out; obtain ⟨z234_0, z234_1, z234_2, z234_3⟩ := Sq.c4 BK201.out; obtain ⟨y234_0, y234_1, y234_2, y234_3⟩ := Sq.f4 BK201.out; obtain ⟨Ao235, co235, eo235⟩ := Kd.R_slice HO198.out; subst eo235; obtain ⟨z236_0, z236_1, z236_2, z236_3, z236_4, z236_5, z236_6, z236_7, z236_8⟩ := Sq.c9 BK191.out; obtain ⟨y236_0, y236_1, y236_2, y236_3, y236_4, y236_5, y236_6, y236_7, y236_8⟩ := Sq.f9 BK191.out; have b237 := NB192_193.out; have d237 := NB193_192.out; obtain ⟨z238_0, z238_1⟩ := Sq.c2 BK192.out; obtain ⟨y238_0, y238_1⟩ := Sq.f2 BK192.out) | ((with_reducible refine gate_callee (f := 39) rfl ?_); refine goesL_ (some 20) rfl rfl Try.func39 (by kernel_rfl) rfl #[.agg #[.int .i64 a0_0, .int .i64 a0_1, .bool false, .int .i64 a0_3, .int .i64 a0_4, .int .i64 a0_5, .bool a0_6, .int .i64 a0_7, .int .i64 a0_8], .agg #[.int .i64 t194, .int .i64 t195, .slice Ao235 t196.length co235, .int .i64 t199], .agg #[.int .i64 a1_0, .slice A1_1 l1_1.length c1_1]] rfl Sq.m ?_; (with_reducible refine (gimbalref9_good.calls k a0_0 a0_1 false a0_3 a0_4 a0_5 a0_6 a0_7 a0_8 t194 t195 _ _ t196 t199 a1_0 _ _ l1_1 true _ ?side1 ?side2 ?side3 ?side4 A4.out).mono ?_); (case side1 => refine (Kd.R_reads' (e := 5) (base := w.heap.size) (ok := fun k_ => True) (n := t196.length) (c := co235) ?_).2.2; exact (Sq.xR HO198.out BK201.out)); (case side2 => exact (Kd.R_reads' HO198.out).2.1); (case side3 => exact Kd.C_below HR1_1.out (Sq.w HB.out)); (case side4 => exact HC1_1.out); rintro e w239 ⟨rfl, hb⟩; refine ⟨_, rfl, ?_⟩; replace HO198 := Sq.yR HO198 BK201 hb; replace BK191 := Sq.sF BK191 hb; replace BK192 := Sq.sF BK192 hb; replace BK193 := Sq.sF BK193 hb; replace BK201 := Aside0.mk (blk_below (g := gb201) (o := .cells #[.int .i64 t194, .int .i64 t195, .slice Ao235 t196.length co235, .int .i64 t199] 31 (0, 0)) (Sq.B BK201.out) hb); replace HB := Sq.sw HB hb; (try clear hb); (try clear hb2); (try clear hk); (try clear hi); obtain ⟨z240_0, z240_1, z240_2, z240_3, z240_4, z240_5, z240_6, z240_7, z240_8⟩ := Sq.c9 BK191.out; obtain ⟨y240_0, y240_1, y240_2, y240_3, y240_4, y240_5, y240_6, y240_7, y240_8⟩ := Sq.f9 BK191.out; obtain ⟨z241_0, z241_1, z241_2, z241_3, z241_4, z241_5, z241_6, z241_7, z241_8⟩ := Sq.c9 BK193.out; obtain ⟨y241_0, y241_1, y241_2, y241_3, y241_4, y241_5, y241_6, y241_7, y241_8⟩ := Sq.f9 BK193.out))
          refine bodyPost_ret (results_ctt rfl _ _ gb193 24 #[.int .i64 a0_0, .int .i64 a0_1, .bool false, .int .i64 a0_3, .int .i64 6, .int .i64 0, .bool true, .int .i64 a0_7, .int .i64 a0_8] (0, 0) _ rfl (Sq.B BK193.out) Try.underlying24 rfl (by kernel_rfl)) rfl ?_
          exact ⟨_, by first | rfl | (simp [errW_none, errW_some] <;> rfl) | (simp [*, errW_none, errW_some] <;> rfl), by first | exact Kd.R_nil _ _ _ _ _ | exact Kd.N_nil _ _ _ _ _ | exact Kd.V_nil _ _ _ _ _ | exact Kd.Q_nil _ _ _ _ _ | exact Kd.S_nil _ _ _ _ _, Sq.w HB.out⟩
        ·rw [if_neg c202] at H
         have c202b0 : (a0_4 == 7) = false := beq_eq_false_iff_ne.mpr c202
         have c202b1 : (a0_4 != 7) = true := bne_iff_ne.mpr c202
         simp only [Option.some.injEq, Prod.mk.injEq] at H
         obtain ⟨rfl, rfl, rfl, rfl, rfl, rfl, rfl, rfl, rfl, rfl, rfl⟩ := H
         go_enter Try.func23, Try.ntmps23
         go_wp2_with (first | ((with_reducible refine gate_dst (N := 2) rfl ?_); refine box_event ?hg (N := 2) ?hd (cs := #[.int .i64 a0_0, .int .i64 a0_1, .bool a0_2, .int .i64 a0_3, .int .i64 a0_4, .int .i64 a0_5, .bool a0_6, .int .i64 a0_7, .int .i64 a0_8]) (t := 24) ?hr ?_; (case hd => rfl); (case hg => rfl); (case hr => first | (go_simp; done) | (go_simp; rfl)); intro gb191 hg w242 hbox hb; have BK191 := Aside0.mk hbox; have GW191 := Sq.ge hg HB; have GE191 := Sq.ge hg HB; replace HB := Sq.sw HB hb; clear hb hbox hg) | ((with_reducible refine gate_dst (N := 3) rfl ?_); refine box_event ?hg (N := 3) ?hd (cs := #[.int .i64 a1_0, .slice A1_1 l1_1.length c1_1]) (t := 27) ?hr ?_; (case hd => rfl); (case hg => rfl); (case hr => first | (go_simp; done) | (go_simp; rfl)); intro gb192 hg w243 hbox hb; have BK192 := Aside0.mk hbox; have GW192 := Sq.ge hg HB; have GE192 := Sq.ge hg HB; obtain ⟨NB191_192, NB192_191⟩ := Sq.np hg BK191; replace BK191 := Sq.sb BK191 hb; replace HB := Sq.sw HB hb; clear hb hbox hg) | ((with_reducible refine gate_dst (N := 4) rfl ?_); refine box_event ?hg (N := 4) ?hd (cs := #[.int .i64 0, .int .i64 0, .bool false, .int .i64 0, .int .i64 0, .int .i64 0, .bool false, .int .i64 0, .int .i64 0]) (t := 24) ?hr ?_; (case hd => rfl); (case hg => rfl); (case hr => first | (go_simp; done) | (go_simp; rfl)); intro gb193 hg w244 hbox hb; have BK193 := Aside0.mk hbox; have GW193 := Sq.ge hg HB; have GE193 := Sq.ge hg HB; obtain ⟨NB191_193, NB193_191⟩ := Sq.np hg BK191; obtain ⟨NB192_193, NB193_192⟩ := Sq.np hg BK192; replace BK191 := Sq.sb BK191 hb; replace BK192 := Sq.sb BK192 hb; replace HB := Sq.sw HB hb; clear hb hbox hg; have b245 := NB191_192.out; have d245 := NB192_191.out; have b246 := NB191_193.out; have d246 := NB193_191.out; obtain ⟨z247_0, z247_1, z247_2, z247_3, z247_4, z247_5, z247_6, z247_7, z247_8⟩ := Sq.c9 BK191.out; obtain ⟨y247_0, y247_1, y247_2, y247_3, y247_4, y247_5, y247_6, y247_7, y247_8⟩ := Sq.f9 BK191.out) | ((with_reducible refine gate_callee (f := 22) rfl ?_); refine goesL_ (some 14) rfl rfl Try.func22 (by kernel_rfl) rfl #[.agg #[.int .i64 a0_0, .int .i64 a0_1, .bool a0_2, .int .i64 a0_3, .int .i64 a0_4, .int .i64 a0_5, .bool a0_6, .int .i64 a0_7, .int .i64 a0_8]] rfl Sq.m ?_; (with_reducible refine (gimbalref9_Next.calls a0_0 a0_1 a0_2 a0_3 a0_4 a0_5 a0_6 a0_7 a0_8 t194 t195 t196 t199 t200 _ A3.out).mono ?_); rintro e w248 ⟨v197, rfl, ho0, hb⟩; refine ⟨_, rfl, ?_⟩; have HO198 := Aside0.mk (Kd.R_lower ho0 (below_size (Sq.w HB.out))); replace BK191 := Sq.sb BK191 hb; replace BK192 := Sq.sb BK192 hb; replace BK193 := Sq.sb BK193 hb; replace HB := Sq.sw HB hb; (try clear hb); (try clear hb2); (try clear hk); (try clear hi); (try clear ho0)) | ((with_reducible refine gate_dst (N := 7) rfl ?_); refine box_event ?hg (N := 7) ?hd (cs := #[.int .i64 0, .int .i64 0, .slice none 0 0, .int .i64 0]) (t := 31) ?hr ?_; (case hd => rfl); (case hg => rfl); (case hr => first | (go_simp; done) | (go_simp; rfl)); intro gb201 hg w249 hbox hb; have BK201 := Aside0.mk hbox; have GW201 := Sq.ge hg HB; have GE201 := Sq.ge hg HB; obtain ⟨NB191_201, NB201_191⟩ := Sq.np hg BK191; obtain ⟨NB192_201, NB201_192⟩ := Sq.np hg BK192; obtain ⟨NB193_201, NB201_193⟩ := Sq.np hg BK193; replace HO198 := Sq.sR HO198 hb; replace BK191 := Sq.sb BK191 hb; replace BK192 := Sq.sb BK192 hb; replace BK193 := Sq.sb BK193 hb; replace HB := Sq.sw HB hb; clear hb hbox hg; have b250 := NB201_191.out; have d250 := NB191_201.out; have b251 := NB201_192.out; have d251 := NB192_201.out; have b252 := NB201_193.out; have d252 := NB193_201.out; obtain ⟨z253_0, z253_1, z253_2, z253_3⟩ := Sq.c4 BK201.out; obtain ⟨y253_0, y253_1, y253_2, y253_3⟩ := Sq.f4 BK201.out; obtain ⟨Ao254, co254, eo254⟩ := Kd.R_slice HO198.out; subst eo254; obtain ⟨z255_0, z255_1, z255_2, z255_3, z255_4, z255_5, z255_6, z255_7, z255_8⟩ := Sq.c9 BK191.out; obtain ⟨y255_0, y255_1, y255_2, y255_3, y255_4, y255_5, y255_6, y255_7, y255_8⟩ := Sq.f9 BK191.out; have b256 := NB192_193.out; have d256 := NB193_192.out; obtain ⟨z257_0, z257_1⟩ := Sq.c2 BK192.out; obtain ⟨y257_0, y257_1⟩ := Sq.f2 BK192.out) | ((with_reducible refine gate_callee (f := 39) rfl ?_); refine goesL_ (some 20) rfl rfl Try.func39 (by kernel_rfl) rfl #[.agg #[.int .i64 a0_0, .int .i64 a0_1, .bool a0_2, .int .i64 a0_3, .int .i64 a0_4, .int .i64 a0_5, .bool a0_6, .int .i64 a0_7, .int .i64 a0_8], .agg #[.int .i64 t194, .int .i64 t195, .slice Ao254 t196.length co254, .int .i64 t199], .agg #[.int .i64 a1_0, .slice A1_1 l1_1.length c1_1]] rfl Sq.m ?_; (with_reducible refine (gimbalref9_good.calls k a0_0 a0_1 a0_2 a0_3 a0_4 a0_5 a0_6 a0_7 a0_8 t194 t195 _ _ t196 t199 a1_0 _ _ l1_1 true _ ?side1 ?side2 ?side3 ?side4 A4.out).mono ?_); (case side1 => refine (Kd.R_reads' (e := 5) (base := w.heap.size) (ok := fun k_ => True) (n := t196.length) (c := co254) ?_).2.2; exact (Sq.xR HO198.out BK201.out)); (case side2 => exact (Kd.R_reads' HO198.out).2.1); (case side3 => exact Kd.C_below HR1_1.out (Sq.w HB.out)); (case side4 => exact HC1_1.out); rintro e w258 ⟨rfl, hb⟩; refine ⟨_, rfl, ?_⟩; replace HO198 := Sq.yR HO198 BK201 hb; replace BK191 := Sq.sF BK191 hb; replace BK192 := Sq.sF BK192 hb; replace BK193 := Sq.sF BK193 hb; replace BK201 := Aside0.mk (blk_below (g := gb201) (o := .cells #[.int .i64 t194, .int .i64 t195, .slice Ao254 t196.length co254, .int .i64 t199] 31 (0, 0)) (Sq.B BK201.out) hb); replace HB := Sq.sw HB hb; (try clear hb); (try clear hb2); (try clear hk); (try clear hi); obtain ⟨z259_0, z259_1, z259_2, z259_3, z259_4, z259_5, z259_6, z259_7, z259_8⟩ := Sq.c9 BK191.out; obtain ⟨y259_0, y259_1, y259_2, y259_3, y259_4, y259_5, y259_6, y259_7, y259_8⟩ := Sq.f9 BK191.out; obtain ⟨z260_0, z260_1, z260_2, z260_3, z260_4, z260_5, z260_6, z260_7, z260_8⟩ := Sq.c9 BK193.out; obtain ⟨y260_0, y260_1, y260_2, y260_3, y260_4, y260_5, y260_6, y260_7, y260_8⟩ := Sq.f9 BK193.out))
         refine bodyPost_ret (results_ctt rfl _ _ gb193 24 #[.int .i64 a0_0, .int .i64 a0_1, .bool a0_2, .int .i64 a0_3, .int .i64 a0_4, .int .i64 0, .bool a0_6, .int .i64 a0_7, .int .i64 a0_8] (0, 0) _ rfl (Sq.B BK193.out) Try.underlying24 rfl (by kernel_rfl)) rfl ?_
         exact ⟨_, by first | rfl | (simp [errW_none, errW_some] <;> rfl) | (simp [*, errW_none, errW_some] <;> rfl), by first | exact Kd.R_nil _ _ _ _ _ | exact Kd.N_nil _ _ _ _ _ | exact Kd.V_nil _ _ _ _ _ | exact Kd.Q_nil _ _ _ _ _ | exact Kd.S_nil _ _ _ _ _, Sq.w HB.out⟩
 ·replace c5 := Bool.eq_false_iff.mpr c5
  subst c5
  have H1 : ((gimbalref9_bad.f k a0_0 a0_1 a0_2 a0_3 a0_4 a0_5 a0_6 a0_7 a0_8).bind fun bt203 => (some (bt203.1, bt203.2.1, bt203.2.2.1, bt203.2.2.2.1, bt203.2.2.2.2.1, bt203.2.2.2.2.2.1, bt203.2.2.2.2.2.2.1, bt203.2.2.2.2.2.2.2.1, bt203.2.2.2.2.2.2.2.2.1, bt203.2.2.2.2.2.2.2.2.2.1, bt203.2.2.2.2.2.2.2.2.2.2))) = some (r1, r2, r3, r4, r5, r6, r7, r8, r9, r10, r11) := by rw [if_neg (show ¬ (false = true) by decide)] at H; exact H
  clear H
  have H := H1
  clear H1
  replace H := Option.bind_eq_some_iff.mp H
  obtain ⟨⟨t203, t204, t205, t206, t207, t208, t209, t210, t211, t212, t215⟩, A2610, H⟩ := H
  replace H : (some (t203, t204, t205, t206, t207, t208, t209, t210, t211, t212, t215)) = some (r1, r2, r3, r4, r5, r6, r7, r8, r9, r10, r11) := H
  have A261 := Aside0.mk A2610
  clear A2610
  simp only [Option.some.injEq, Prod.mk.injEq] at H
  obtain ⟨rfl, rfl, rfl, rfl, rfl, rfl, rfl, rfl, rfl, rfl, rfl⟩ := H
  go_enter Try.func23, Try.ntmps23
  go_wp2_with (first | ((with_reducible refine gate_dst (N := 2) rfl ?_); refine box_event ?hg (N := 2) ?hd (cs := #[.int .i64 a0_0, .int .i64 a0_1, .bool a0_2, .int .i64 a0_3, .int .i64 a0_4, .int .i64 a0_5, .bool a0_6, .int .i64 a0_7, .int .i64 a0_8]) (t := 24) ?hr ?_; (case hd => rfl); (case hg => rfl); (case hr => first | (go_simp; done) | (go_simp; rfl)); intro gb191 hg w262 hbox hb; have BK191 := Aside0.mk hbox; have GW191 := Sq.ge hg HB; have GE191 := Sq.ge hg HB; replace HB := Sq.sw HB hb; clear hb hbox hg) | ((with_reducible refine gate_dst (N := 3) rfl ?_); refine box_event ?hg (N := 3) ?hd (cs := #[.int .i64 a1_0, .slice A1_1 l1_1.length c1_1]) (t := 27) ?hr ?_; (case hd => rfl); (case hg => rfl); (case hr => first | (go_simp; done) | (go_simp; rfl)); intro gb192 hg w263 hbox hb; have BK192 := Aside0.mk hbox; have GW192 := Sq.ge hg HB; have GE192 := Sq.ge hg HB; obtain ⟨NB191_192, NB192_191⟩ := Sq.np hg BK191; replace BK191 := Sq.sb BK191 hb; replace HB := Sq.sw HB hb; clear hb hbox hg) | ((with_reducible refine gate_dst (N := 4) rfl ?_); refine box_event ?hg (N := 4) ?hd (cs := #[.int .i64 0, .int .i64 0, .bool false, .int .i64 0, .int .i64 0, .int .i64 0, .bool false, .int .i64 0, .int .i64 0]) (t := 24) ?hr ?_; (case hd => rfl); (case hg => rfl); (case hr => first | (go_simp; done) | (go_simp; rfl)); intro gb193 hg w264 hbox hb; have BK193 := Aside0.mk hbox; have GW193 := Sq.ge hg HB; have GE193 := Sq.ge hg HB; obtain ⟨NB191_193, NB193_191⟩ := Sq.np hg BK191; obtain ⟨NB192_193, NB193_192⟩ := Sq.np hg BK192; replace BK191 := Sq.sb BK191 hb; replace BK192 := Sq.sb BK192 hb; replace HB := Sq.sw HB hb; clear hb hbox hg; have b265 := NB191_192.out; have d265 := NB192_191.out; have b266 := NB191_193.out; have d266 := NB193_191.out; obtain ⟨z267_0, z267_1, z267_2, z267_3, z267_4, z267_5, z267_6, z267_7, z267_8⟩ := Sq.c9 BK191.out; obtain ⟨y267_0, y267_1, y267_2, y267_3, y267_4, y267_5, y267_6, y267_7, y267_8⟩ := Sq.f9 BK191.out) | ((with_reducible refine gate_callee (f := 22) rfl ?_); refine goesL_ (some 14) rfl rfl Try.func22 (by kernel_rfl) rfl #[.agg #[.int .i64 a0_0, .int .i64 a0_1, .bool a0_2, .int .i64 a0_3, .int .i64 a0_4, .int .i64 a0_5, .bool a0_6, .int .i64 a0_7, .int .i64 a0_8]] rfl Sq.m ?_; (with_reducible refine (gimbalref9_Next.calls a0_0 a0_1 a0_2 a0_3 a0_4 a0_5 a0_6 a0_7 a0_8 t194 t195 t196 t199 t200 _ A3.out).mono ?_); rintro e w268 ⟨v197, rfl, ho0, hb⟩; refine ⟨_, rfl, ?_⟩; have HO198 := Aside0.mk (Kd.R_lower ho0 (below_size (Sq.w HB.out))); replace BK191 := Sq.sb BK191 hb; replace BK192 := Sq.sb BK192 hb; replace BK193 := Sq.sb BK193 hb; replace HB := Sq.sw HB hb; (try clear hb); (try clear hb2); (try clear hk); (try clear hi); (try clear ho0)) | ((with_reducible refine gate_dst (N := 7) rfl ?_); refine box_event ?hg (N := 7) ?hd (cs := #[.int .i64 0, .int .i64 0, .slice none 0 0, .int .i64 0]) (t := 31) ?hr ?_; (case hd => rfl); (case hg => rfl); (case hr => first | (go_simp; done) | (go_simp; rfl)); intro gb201 hg w269 hbox hb; have BK201 := Aside0.mk hbox; have GW201 := Sq.ge hg HB; have GE201 := Sq.ge hg HB; obtain ⟨NB191_201, NB201_191⟩ := Sq.np hg BK191; obtain ⟨NB192_201, NB201_192⟩ := Sq.np hg BK192; obtain ⟨NB193_201, NB201_193⟩ := Sq.np hg BK193; replace HO198 := Sq.sR HO198 hb; replace BK191 := Sq.sb BK191 hb; replace BK192 := Sq.sb BK192 hb; replace BK193 := Sq.sb BK193 hb; replace HB := Sq.sw HB hb; clear hb hbox hg; have b270 := NB201_191.out; have d270 := NB191_201.out; have b271 := NB201_192.out; have d271 := NB192_201.out; have b272 := NB201_193.out; have d272 := NB193_201.out; obtain ⟨z273_0, z273_1, z273_2, z273_3⟩ := Sq.c4 BK201.out; obtain ⟨y273_0, y273_1, y273_2, y273_3⟩ := Sq.f4 BK201.out; obtain ⟨Ao274, co274, eo274⟩ := Kd.R_slice HO198.out; subst eo274; obtain ⟨z275_0, z275_1, z275_2, z275_3, z275_4, z275_5, z275_6, z275_7, z275_8⟩ := Sq.c9 BK191.out; obtain ⟨y275_0, y275_1, y275_2, y275_3, y275_4, y275_5, y275_6, y275_7, y275_8⟩ := Sq.f9 BK191.out; have b276 := NB192_193.out; have d276 := NB193_192.out; obtain ⟨z277_0, z277_1⟩ := Sq.c2 BK192.out; obtain ⟨y277_0, y277_1⟩ := Sq.f2 BK192.out) | ((with_reducible refine gate_callee (f := 39) rfl ?_); refine goesL_ (some 20) rfl rfl Try.func39 (by kernel_rfl) rfl #[.agg #[.int .i64 a0_0, .int .i64 a0_1, .bool a0_2, .int .i64 a0_3, .int .i64 a0_4, .int .i64 a0_5, .bool a0_6, .int .i64 a0_7, .int .i64 a0_8], .agg #[.int .i64 t194, .int .i64 t195, .slice Ao274 t196.length co274, .int .i64 t199], .agg #[.int .i64 a1_0, .slice A1_1 l1_1.length c1_1]] rfl Sq.m ?_; (with_reducible refine (gimbalref9_good.calls k a0_0 a0_1 a0_2 a0_3 a0_4 a0_5 a0_6 a0_7 a0_8 t194 t195 _ _ t196 t199 a1_0 _ _ l1_1 false _ ?side1 ?side2 ?side3 ?side4 A4.out).mono ?_); (case side1 => refine (Kd.R_reads' (e := 5) (base := w.heap.size) (ok := fun k_ => True) (n := t196.length) (c := co274) ?_).2.2; exact (Sq.xR HO198.out BK201.out)); (case side2 => exact (Kd.R_reads' HO198.out).2.1); (case side3 => exact Kd.C_below HR1_1.out (Sq.w HB.out)); (case side4 => exact HC1_1.out); rintro e w278 ⟨rfl, hb⟩; refine ⟨_, rfl, ?_⟩; replace HO198 := Sq.yR HO198 BK201 hb; replace BK191 := Sq.sF BK191 hb; replace BK192 := Sq.sF BK192 hb; replace BK193 := Sq.sF BK193 hb; replace BK201 := Aside0.mk (blk_below (g := gb201) (o := .cells #[.int .i64 t194, .int .i64 t195, .slice Ao274 t196.length co274, .int .i64 t199] 31 (0, 0)) (Sq.B BK201.out) hb); replace HB := Sq.sw HB hb; (try clear hb); (try clear hb2); (try clear hk); (try clear hi); obtain ⟨z279_0, z279_1, z279_2, z279_3, z279_4, z279_5, z279_6, z279_7, z279_8⟩ := Sq.c9 BK191.out; obtain ⟨y279_0, y279_1, y279_2, y279_3, y279_4, y279_5, y279_6, y279_7, y279_8⟩ := Sq.f9 BK191.out) | ((with_reducible refine gate_callee (f := 40) rfl ?_); refine goesL_ (some 23) rfl rfl Try.func40 (by kernel_rfl) rfl #[.agg #[.int .i64 a0_0, .int .i64 a0_1, .bool a0_2, .int .i64 a0_3, .int .i64 a0_4, .int .i64 a0_5, .bool a0_6, .int .i64 a0_7, .int .i64 a0_8]] rfl Sq.m ?_; (with_reducible refine (gimbalref9_bad.calls k a0_0 a0_1 a0_2 a0_3 a0_4 a0_5 a0_6 a0_7 a0_8 t203 t204 t205 t206 t207 t208 t209 t210 t211 t212 t215 _ A261.out).mono ?_); rintro e w280 ⟨v213, rfl, ho0, hb⟩; refine ⟨_, rfl, ?_⟩; have HO214 := Aside0.mk (Kd.R_lower ho0 (below_size (Sq.w HB.out))); replace HO198 := Sq.sR HO198 hb; replace BK191 := Sq.sb BK191 hb; replace BK192 := Sq.sb BK192 hb; replace BK193 := Sq.sb BK193 hb; replace BK201 := Sq.sb BK201 hb; replace HB := Sq.sw HB hb; (try clear hb); (try clear hb2); (try clear hk); (try clear hi); (try clear ho0); obtain ⟨z281_0, z281_1, z281_2, z281_3, z281_4, z281_5, z281_6, z281_7, z281_8⟩ := Sq.c9 BK193.out; obtain ⟨y281_0, y281_1, y281_2, y281_3, y281_4, y281_5, y281_6, y281_7, y281_8⟩ := Sq.f9 BK193.out))
  refine bodyPost_ret (results_ctt rfl _ _ gb193 24 #[.int .i64 t203, .int .i64 t204, .bool t205, .int .i64 t206, .int .i64 t207, .int .i64 t208, .bool t209, .int .i64 t210, .int .i64 t211] (0, 0) _ rfl (Sq.B BK193.out) Try.underlying24 rfl (by kernel_rfl)) rfl ?_
  exact ⟨_, by first | rfl | (simp [errW_none, errW_some] <;> rfl) | (simp [*, errW_none, errW_some] <;> rfl), by (with_reducible repeat (first | apply Kd.R_alloc | apply Kd.R_drewN | apply Kd.R_drew)); exact Kd.R_mono (Kd.R_far (p := ⟨gb193, 8, none⟩) (Kd.R_far (p := ⟨gb193, 7, none⟩) (Kd.R_far (p := ⟨gb193, 6, none⟩) (Kd.R_far (p := ⟨gb193, 5, none⟩) (Kd.R_far (p := ⟨gb193, 4, none⟩) (Kd.R_far (p := ⟨gb193, 3, none⟩) (Kd.R_far (p := ⟨gb193, 2, none⟩) (Kd.R_far (p := ⟨gb193, 1, none⟩) (Kd.R_far (p := ⟨gb193, 0, none⟩) (Kd.R_types HO214.out BK193.out (by decide)) (fun _ hk => hk.2) (.int .i64 t203)) (fun _ hk => hk.2) (.int .i64 t204)) (fun _ hk => hk.2) (.bool t205)) (fun _ hk => hk.2) (.int .i64 t206)) (fun _ hk => hk.2) (.int .i64 t207)) (fun _ hk => hk.2) (.int .i64 t208)) (fun _ hk => hk.2) (.bool t209)) (fun _ hk => hk.2) (.int .i64 t210)) (fun _ hk => hk.2) (.int .i64 t211)) (fun _ hk => trivial), Sq.w HB.out⟩

end Go.Proofs.Ytnlmbejkemkkoaa.PDrvExact
