import Derived.Test.YtbleapgklbohcaaPLogRecordsx0
import Derived.Test.YtbleapgklbohcaaPLogRecordsx1
namespace Go.Proofs.Ytbleapgklbohcaa.PLogRecords
open Go.RowKit Go.Proofs.YtbleapgklbohcaaW.PrintWords Go.Proofs.YtbleapgklbohcaaW.PrintLast Go.Proofs.YtbleapgklbohcaaW.PrintMore
attribute [local go_sem] max2_int min2_int max_two min_two max_three min_three max_four min_four   -- for this text's walks alone
set_option linter.unusedVariables false
set_option linter.unusedSimpArgs false

/-! ### log_Gen: function 14 -/
def log_Gen.f (a0 : Int) : Option (Int × Bool) := if (Go.bits .and .u32 a0 4278190080) = 1191182336 then (some (wrap64 (Go.bits .andNot .u32 a0 4278190080), true)) else (some (0, false))
set_option maxHeartbeats 8000000 in
set_option maxRecDepth 100000 in
theorem log_Gen.calls (a0 : Int) (r1 : Int) (r2 : Bool) (w : World) (h : log_Gen.f a0 = some (r1, r2)) :
    Calls Try.prog 14 #[.int .u32 a0] w fun e w' => e = .returned (.tuple #[.int .i64 r1, .bool r2]) ∧ Drawn0 w w' := by
  have H : (if (Go.bits .and .u32 a0 4278190080) = 1191182336 then (some (wrap64 (Go.bits .andNot .u32 a0 4278190080), true)) else (some (0, false))) = some (r1, r2) := h
  clear h
  by_cases c2 : (Go.bits .and .u32 a0 4278190080) = 1191182336
  · rw [if_pos c2] at H
    have c2b0 : ((Go.bits .and .u32 a0 4278190080) == 1191182336) = true := beq_iff_eq.mpr c2
    have c2b1 : ((Go.bits .and .u32 a0 4278190080) != 1191182336) = false := bne_eq_false_iff_eq.mpr c2
    clear c2
    simp only [Option.some.injEq, Prod.mk.injEq] at H
    obtain ⟨rfl, rfl⟩ := H
    go_enter Try.func14, Try.ntmps14
    go_wp2
    go_ret2
    exact ⟨by first | rfl | (simp; done) | (simp [*]; done), by repeat (first | exact Drawn0.refl _ | apply Drawn0.step)⟩
  · rw [if_neg c2] at H
    have c2b0 : ((Go.bits .and .u32 a0 4278190080) == 1191182336) = false := beq_eq_false_iff_ne.mpr c2
    have c2b1 : ((Go.bits .and .u32 a0 4278190080) != 1191182336) = true := bne_iff_ne.mpr c2
    simp only [Option.some.injEq, Prod.mk.injEq] at H
    obtain ⟨rfl, rfl⟩ := H
    go_enter Try.func14, Try.ntmps14
    go_wp2
    go_ret2
    exact ⟨by first | rfl | (simp; done) | (simp [*]; done), by repeat (first | exact Drawn0.refl _ | apply Drawn0.step)⟩

/-! ### gimballaw30_wakes: function 15 -/
def gimballaw30_wakes.f  : Option (Bool) := (log_Head.f 1).bind fun bt123 => ((log_Gen.f bt123.1).bind fun bt125 => ((gimballaw30_num.f bt123.2).bind fun t127 => (if t127 = 0 then (if bt123.1 = 1191182337 then (if bt125.2 = true then (some (bt125.1 == 1)) else (some false)) else (some false)) else (some false))))
set_option maxHeartbeats 8000000 in
set_option maxRecDepth 100000 in
theorem gimballaw30_wakes.calls  (r : Bool) (w : World) (h : gimballaw30_wakes.f  = some r) :
    Calls Try.prog 15 #[] w fun e w' => e = .returned (.bool r) ∧ Drawn0 w w' := by
  have H : ((log_Head.f 1).bind fun bt123 => ((log_Gen.f bt123.1).bind fun bt125 => ((gimballaw30_num.f bt123.2).bind fun t127 => (if t127 = 0 then (if bt123.1 = 1191182337 then (if bt125.2 = true then (some (bt125.1 == 1)) else (some false)) else (some false)) else (some false))))) = some r := h
  clear h
  replace H := Option.bind_eq_some_iff.mp H
  obtain ⟨⟨t123, t124⟩, A10, H⟩ := H
  replace H : ((log_Gen.f t123).bind fun bt125 => ((gimballaw30_num.f t124).bind fun t127 => (if t127 = 0 then (if t123 = 1191182337 then (if bt125.2 = true then (some (bt125.1 == 1)) else (some false)) else (some false)) else (some false)))) = some r := H
  have A1 := Aside0.mk A10
  clear A10
  replace H := Option.bind_eq_some_iff.mp H
  obtain ⟨⟨t125, t126⟩, A20, H⟩ := H
  replace H : ((gimballaw30_num.f t124).bind fun t127 => (if t127 = 0 then (if t123 = 1191182337 then (if t126 = true then (some (t125 == 1)) else (some false)) else (some false)) else (some false))) = some r := H
  have A2 := Aside0.mk A20
  clear A20
  replace H := Option.bind_eq_some_iff.mp H
  obtain ⟨t127, A30, H⟩ := H
  replace H : (if t127 = 0 then (if t123 = 1191182337 then (if t126 = true then (some (t125 == 1)) else (some false)) else (some false)) else (some false)) = some r := H
  have A3 := Aside0.mk A30
  clear A30
  by_cases c4 : t127 = 0
  · rw [if_pos c4] at H
    have c4b0 : (t127 == 0) = true := beq_iff_eq.mpr c4
    have c4b1 : (t127 != 0) = false := bne_eq_false_iff_eq.mpr c4
    clear c4
    by_cases c5 : t123 = 1191182337
    · rw [if_pos c5] at H
      have c5b0 : (t123 == 1191182337) = true := beq_iff_eq.mpr c5
      have c5b1 : (t123 != 1191182337) = false := bne_eq_false_iff_eq.mpr c5
      clear c5
      by_cases c6 : t126 = true
      · subst c6
        have H1 : (some (t125 == 1)) = some r := by rw [if_pos rfl] at H; exact H
        clear H
        have H := H1
        clear H1
        obtain rfl := Option.some.inj H
        go_enter Try.func15, Try.ntmps15
        go_wp2_with (first | ((with_reducible refine gate_callee (f := 13) rfl ?_); refine goesL_ (some 6) rfl rfl Try.func13 (by kernel_rfl) rfl #[.int .i64 1] rfl (by (try simp only [List.map_toArray, List.map_cons, List.map_nil]); first | done | rfl | (simp only [List.length_drop, List.length_take]; rfl)) ?_; (with_reducible refine (log_Head.calls 1 t123 t124 _ A1.out).mono ?_); rintro e w' ⟨rfl, ⟨nd, rfl⟩⟩; refine ⟨_, rfl, ?_⟩) | ((with_reducible refine gate_callee (f := 14) rfl ?_); refine goesL_ (some 11) rfl rfl Try.func14 (by kernel_rfl) rfl #[.int .u32 t123] rfl (by (try simp only [List.map_toArray, List.map_cons, List.map_nil]); first | done | rfl | (simp only [List.length_drop, List.length_take]; rfl)) ?_; (with_reducible refine (log_Gen.calls t123 t125 true _ A2.out).mono ?_); rintro e w' ⟨rfl, ⟨nd, rfl⟩⟩; refine ⟨_, rfl, ?_⟩) | ((with_reducible refine gate_callee (f := 9) rfl ?_); refine goesL_ (some 15) rfl rfl Try.func9 (by kernel_rfl) rfl #[.int .i64 t124] rfl (by (try simp only [List.map_toArray, List.map_cons, List.map_nil]); first | done | rfl | (simp only [List.length_drop, List.length_take]; rfl)) ?_; (with_reducible refine (gimballaw30_num.calls t124 t127 _ A3.out).mono ?_); rintro e w' ⟨rfl, ⟨nd, rfl⟩⟩; refine ⟨_, rfl, ?_⟩))
        go_ret
        exact ⟨by first | rfl | (simp; done) | (simp [*]; done), by repeat (first | exact Drawn0.refl _ | apply Drawn0.step)⟩
      · replace c6 := Bool.eq_false_iff.mpr c6
        subst c6
        have H1 : (some false) = some r := by rw [if_neg (show ¬ (false = true) by decide)] at H; exact H
        clear H
        have H := H1
        clear H1
        obtain rfl := Option.some.inj H
        go_enter Try.func15, Try.ntmps15
        go_wp2_with (first | ((with_reducible refine gate_callee (f := 13) rfl ?_); refine goesL_ (some 6) rfl rfl Try.func13 (by kernel_rfl) rfl #[.int .i64 1] rfl (by (try simp only [List.map_toArray, List.map_cons, List.map_nil]); first | done | rfl | (simp only [List.length_drop, List.length_take]; rfl)) ?_; (with_reducible refine (log_Head.calls 1 t123 t124 _ A1.out).mono ?_); rintro e w' ⟨rfl, ⟨nd, rfl⟩⟩; refine ⟨_, rfl, ?_⟩) | ((with_reducible refine gate_callee (f := 14) rfl ?_); refine goesL_ (some 11) rfl rfl Try.func14 (by kernel_rfl) rfl #[.int .u32 t123] rfl (by (try simp only [List.map_toArray, List.map_cons, List.map_nil]); first | done | rfl | (simp only [List.length_drop, List.length_take]; rfl)) ?_; (with_reducible refine (log_Gen.calls t123 t125 false _ A2.out).mono ?_); rintro e w' ⟨rfl, ⟨nd, rfl⟩⟩; refine ⟨_, rfl, ?_⟩) | ((with_reducible refine gate_callee (f := 9) rfl ?_); refine goesL_ (some 15) rfl rfl Try.func9 (by kernel_rfl) rfl #[.int .i64 t124] rfl (by (try simp only [List.map_toArray, List.map_cons, List.map_nil]); first | done | rfl | (simp only [List.length_drop, List.length_take]; rfl)) ?_; (with_reducible refine (gimballaw30_num.calls t124 t127 _ A3.out).mono ?_); rintro e w' ⟨rfl, ⟨nd, rfl⟩⟩; refine ⟨_, rfl, ?_⟩))
        go_ret
        exact ⟨by first | rfl | (simp; done) | (simp [*]; done), by repeat (first | exact Drawn0.refl _ | apply Drawn0.step)⟩
    · rw [if_neg c5] at H
      have c5b0 : (t123 == 1191182337) = false := beq_eq_false_iff_ne.mpr c5
      have c5b1 : (t123 != 1191182337) = true := bne_iff_ne.mpr c5
      obtain rfl := Option.some.inj H
      go_enter Try.func15, Try.ntmps15
      go_wp2_with (first | ((with_reducible refine gate_callee (f := 13) rfl ?_); refine goesL_ (some 6) rfl rfl Try.func13 (by kernel_rfl) rfl #[.int .i64 1] rfl (by (try simp only [List.map_toArray, List.map_cons, List.map_nil]); first | done | rfl | (simp only [List.length_drop, List.length_take]; rfl)) ?_; (with_reducible refine (log_Head.calls 1 t123 t124 _ A1.out).mono ?_); rintro e w' ⟨rfl, ⟨nd, rfl⟩⟩; refine ⟨_, rfl, ?_⟩) | ((with_reducible refine gate_callee (f := 14) rfl ?_); refine goesL_ (some 11) rfl rfl Try.func14 (by kernel_rfl) rfl #[.int .u32 t123] rfl (by (try simp only [List.map_toArray, List.map_cons, List.map_nil]); first | done | rfl | (simp only [List.length_drop, List.length_take]; rfl)) ?_; (with_reducible refine (log_Gen.calls t123 t125 t126 _ A2.out).mono ?_); rintro e w' ⟨rfl, ⟨nd, rfl⟩⟩; refine ⟨_, rfl, ?_⟩) | ((with_reducible refine gate_callee (f := 9) rfl ?_); refine goesL_ (some 15) rfl rfl Try.func9 (by kernel_rfl) rfl #[.int .i64 t124] rfl (by (try simp only [List.map_toArray, List.map_cons, List.map_nil]); first | done | rfl | (simp only [List.length_drop, List.length_take]; rfl)) ?_; (with_reducible refine (gimballaw30_num.calls t124 t127 _ A3.out).mono ?_); rintro e w' ⟨rfl, ⟨nd, rfl⟩⟩; refine ⟨_, rfl, ?_⟩))
      go_ret
      exact ⟨by first | rfl | (simp; done) | (simp [*]; done), by repeat (first | exact Drawn0.refl _ | apply Drawn0.step)⟩
  · rw [if_neg c4] at H
    have c4b0 : (t127 == 0) = false := beq_eq_false_iff_ne.mpr c4
    have c4b1 : (t127 != 0) = true := bne_iff_ne.mpr c4
    obtain rfl := Option.some.inj H
    go_enter Try.func15, Try.ntmps15
    go_wp2_with (first | ((with_reducible refine gate_callee (f := 13) rfl ?_); refine goesL_ (some 6) rfl rfl Try.func13 (by kernel_rfl) rfl #[.int .i64 1] rfl (by (try simp only [List.map_toArray, List.map_cons, List.map_nil]); first | done | rfl | (simp only [List.length_drop, List.length_take]; rfl)) ?_; (with_reducible refine (log_Head.calls 1 t123 t124 _ A1.out).mono ?_); rintro e w' ⟨rfl, ⟨nd, rfl⟩⟩; refine ⟨_, rfl, ?_⟩) | ((with_reducible refine gate_callee (f := 14) rfl ?_); refine goesL_ (some 11) rfl rfl Try.func14 (by kernel_rfl) rfl #[.int .u32 t123] rfl (by (try simp only [List.map_toArray, List.map_cons, List.map_nil]); first | done | rfl | (simp only [List.length_drop, List.length_take]; rfl)) ?_; (with_reducible refine (log_Gen.calls t123 t125 t126 _ A2.out).mono ?_); rintro e w' ⟨rfl, ⟨nd, rfl⟩⟩; refine ⟨_, rfl, ?_⟩) | ((with_reducible refine gate_callee (f := 9) rfl ?_); refine goesL_ (some 15) rfl rfl Try.func9 (by kernel_rfl) rfl #[.int .i64 t124] rfl (by (try simp only [List.map_toArray, List.map_cons, List.map_nil]); first | done | rfl | (simp only [List.length_drop, List.length_take]; rfl)) ?_; (with_reducible refine (gimballaw30_num.calls t124 t127 _ A3.out).mono ?_); rintro e w' ⟨rfl, ⟨nd, rfl⟩⟩; refine ⟨_, rfl, ?_⟩))
    go_ret
    exact ⟨by first | rfl | (simp; done) | (simp [*]; done), by repeat (first | exact Drawn0.refl _ | apply Drawn0.step)⟩

/-! ### gimballaw30_LogRecords: function 3 -/
mutual
def gimballaw30_LogRecords.l0 : Nat → List (S30) → Int → Option (Bool)
  | 0, _, _ => none
  | k + 1, x0, x3 => if x3 < (x0.length : Int) then (gimballaw30_LogRecords.j1 k x0 x3 (decide (x3 < 10))) else (gimballaw30_LogRecords.j1 k x0 x3 false)
def gimballaw30_LogRecords.j1 : Nat → List (S30) → Int → Bool → Option (Bool)
  | 0, _, _, _ => none
  | k + 1, x0, x3, x24 => if x24 = true then (if 0 ≤ x3 then (if x3 < (x0.length : Int) then ((gimballaw30_heavy.f ((rd_T30 x0 x3).f0.f0) ((rd_T30 x0 x3).f0.f1) ((rd_T30 x0 x3).f1) ((rd_T30 x0 x3).f2) ((rd_T30 x0 x3).f3) ((rd_T30 x0 x3).f4) ((rd_T30 x0 x3).f5)).bind fun t131 => (if t131 = true then (gimballaw30_LogRecords.j2 k x0 x3 true ((rd_T30 x0 x3).f0.f0) ((rd_T30 x0 x3).f0.f1) ((rd_T30 x0 x3).f1) ((rd_T30 x0 x3).f2) ((rd_T30 x0 x3).f3) ((rd_T30 x0 x3).f4) ((rd_T30 x0 x3).f5)) else ((gimbalref29_MayEntry.f ((rd_T30 x0 x3).f0.f0) ((rd_T30 x0 x3).f0.f1)).bind fun t132 => (gimballaw30_LogRecords.j2 k x0 x3 (!t132) ((rd_T30 x0 x3).f0.f0) ((rd_T30 x0 x3).f0.f1) ((rd_T30 x0 x3).f1) ((rd_T30 x0 x3).f2) ((rd_T30 x0 x3).f3) ((rd_T30 x0 x3).f4) ((rd_T30 x0 x3).f5))))) else (none)) else (none)) else ((gimballaw30_wakes.f).bind fun t128 => (some t128))
def gimballaw30_LogRecords.j2 : Nat → List (S30) → Int → Bool → Int → List Int → Int → Int → List Int → List (S25) → Int → Option (Bool)
  | 0, _, _, _, _, _, _, _, _, _, _ => none
  | k + 1, x0, x3, x38, x131000, x131001, x131002, x131003, x131004, x131005, x131006 => if x38 = true then (gimballaw30_LogRecords.l0 k x0 (wrap64 (x3 + 1))) else ((log_Pack.f k x131000 x131001).bind fun bt133 => ((gimballaw30_num.f bt133.2).bind fun t137 => (if t137 = 0 then (if (bt133.1.length : Int) = (wrap64 (2 + (wrap64 (Int.tdiv (wrap64 ((x131001.length : Int) + 3)) 4)))) then (if 0 < (bt133.1.length : Int) then (if (rd bt133.1 0) = ((1375731712 + ((wrap64 ((wrap64 (256 * x131000)) + (x131001.length : Int))) % 4294967296)) % 4294967296) then (if 0 ≤ (wrap64 ((bt133.1.length : Int) - 1)) then (if (wrap64 ((bt133.1.length : Int) - 1)) < (bt133.1.length : Int) then (gimballaw30_LogRecords.j3 k x0 x3 bt133.1 (((rd bt133.1 (wrap64 ((bt133.1.length : Int) - 1))) / 16777216) != 67) x131000 x131001 x131002 x131003 x131004 x131005 x131006) else (none)) else (none)) else (gimballaw30_LogRecords.j3 k x0 x3 bt133.1 true x131000 x131001 x131002 x131003 x131004 x131005 x131006)) else (none)) else (gimballaw30_LogRecords.j3 k x0 x3 bt133.1 true x131000 x131001 x131002 x131003 x131004 x131005 x131006)) else (gimballaw30_LogRecords.j3 k x0 x3 bt133.1 true x131000 x131001 x131002 x131003 x131004 x131005 x131006))))
def gimballaw30_LogRecords.j3 : Nat → List (S30) → Int → List Int → Bool → Int → List Int → Int → Int → List Int → List (S25) → Int → Option (Bool)
  | 0, _, _, _, _, _, _, _, _, _, _, _ => none
  | k + 1, x0, x3, x5, x86, x131000, x131001, x131002, x131003, x131004, x131005, x131006 => if x86 = true then (some false) else (if 256 ≤ 70368744177664 then (gimballaw30_LogRecords.l1 k x0 x3 x5 (List.replicate 256 0) 0 x131000 x131001 x131002 x131003 x131004 x131005 x131006) else (none))
def gimballaw30_LogRecords.l1 : Nat → List (S30) → Int → List Int → List Int → Int → Int → List Int → Int → Int → List Int → List (S25) → Int → Option (Bool)
  | 0, _, _, _, _, _, _, _, _, _, _, _, _ => none
  | k + 1, x0, x3, x5, x7, x8, x131000, x131001, x131002, x131003, x131004, x131005, x131006 => if x8 < (x7.length : Int) then (if 0 ≤ x8 then (gimballaw30_LogRecords.l1 k x0 x3 x5 (x7.set (x8 : Int).toNat 4294967295) (wrap64 (x8 + 1)) x131000 x131001 x131002 x131003 x131004 x131005 x131006) else (none)) else (if 1 ≤ (x7.length : Int) then ((log_Scan.f (copyIn x7 1 x5)).bind fun bt149 => ((gimballaw30_num.f bt149.2.2).bind fun t154 => (if t154 = 0 then (if bt149.2.1 = (wrap64 (1 + (x5.length : Int))) then (if (bt149.1.length : Int) = 1 then (if 0 < (bt149.1.length : Int) then ((gimbalref0_EqEntry.f k ((rd_T25 bt149.1 0).f0) ((rd_T25 bt149.1 0).f1) x131000 x131001).bind fun t156 => (gimballaw30_LogRecords.j5 k x0 x3 (!t156) x131000 x131001 x131002 x131003 x131004 x131005 x131006)) else (none)) else (gimballaw30_LogRecords.j5 k x0 x3 true x131000 x131001 x131002 x131003 x131004 x131005 x131006)) else (gimballaw30_LogRecords.j5 k x0 x3 true x131000 x131001 x131002 x131003 x131004 x131005 x131006)) else (gimballaw30_LogRecords.j5 k x0 x3 true x131000 x131001 x131002 x131003 x131004 x131005 x131006)))) else (none))
def gimballaw30_LogRecords.j5 : Nat → List (S30) → Int → Bool → Int → List Int → Int → Int → List Int → List (S25) → Int → Option (Bool)
  | 0, _, _, _, _, _, _, _, _, _, _ => none
  | k + 1, x0, x3, x130, x131000, x131001, x131002, x131003, x131004, x131005, x131006 => if x130 = true then (some false) else ((gimballaw0_Within.f x131002 16777216).bind fun t157 => ((log_Head.f t157).bind fun bt158 => ((log_Gen.f bt158.1).bind fun bt160 => ((gimballaw30_num.f bt158.2).bind fun t162 => (if t162 = 0 then (if bt160.2 = true then (if bt160.1 = t157 then (gimballaw30_LogRecords.l0 k x0 (wrap64 (x3 + 1))) else (some false)) else (some false)) else (some false))))))
end
def gimballaw30_LogRecords.f (k : Nat) (l0 : List (S30)) : Option (Bool) := gimballaw30_LogRecords.l0 k l0 0
theorem gimballaw30_LogRecords.mono_l : ∀ k, (∀ y0 y1, LeO (gimballaw30_LogRecords.l0 k y0 y1) (gimballaw30_LogRecords.l0 (k + 1) y0 y1)) ∧ (∀ y0 y1 y2, LeO (gimballaw30_LogRecords.j1 k y0 y1 y2) (gimballaw30_LogRecords.j1 (k + 1) y0 y1 y2)) ∧ (∀ y0 y1 y2 y3 y4 y5 y6 y7 y8 y9, LeO (gimballaw30_LogRecords.j2 k y0 y1 y2 y3 y4 y5 y6 y7 y8 y9) (gimballaw30_LogRecords.j2 (k + 1) y0 y1 y2 y3 y4 y5 y6 y7 y8 y9)) ∧ (∀ y0 y1 y2 y3 y4 y5 y6 y7 y8 y9 y10, LeO (gimballaw30_LogRecords.j3 k y0 y1 y2 y3 y4 y5 y6 y7 y8 y9 y10) (gimballaw30_LogRecords.j3 (k + 1) y0 y1 y2 y3 y4 y5 y6 y7 y8 y9 y10)) ∧ (∀ y0 y1 y2 y3 y4 y5 y6 y7 y8 y9 y10 y11, LeO (gimballaw30_LogRecords.l1 k y0 y1 y2 y3 y4 y5 y6 y7 y8 y9 y10 y11) (gimballaw30_LogRecords.l1 (k + 1) y0 y1 y2 y3 y4 y5 y6 y7 y8 y9 y10 y11)) ∧ (∀ y0 y1 y2 y3 y4 y5 y6 y7 y8 y9, LeO (gimballaw30_LogRecords.j5 k y0 y1 y2 y3 y4 y5 y6 y7 y8 y9) (gimballaw30_LogRecords.j5 (k + 1) y0 y1 y2 y3 y4 y5 y6 y7 y8 y9))
  | 0 => ⟨fun _ _ r h => by simp [gimballaw30_LogRecords.l0] at h, fun _ _ _ r h => by simp [gimballaw30_LogRecords.j1] at h, fun _ _ _ _ _ _ _ _ _ _ r h => by simp [gimballaw30_LogRecords.j2] at h, fun _ _ _ _ _ _ _ _ _ _ _ r h => by simp [gimballaw30_LogRecords.j3] at h, fun _ _ _ _ _ _ _ _ _ _ _ _ r h => by simp [gimballaw30_LogRecords.l1] at h, fun _ _ _ _ _ _ _ _ _ _ r h => by simp [gimballaw30_LogRecords.j5] at h⟩
  | k + 1 => by
    obtain ⟨ih0, ih1, ih2, ih3, ih4, ih5⟩ := gimballaw30_LogRecords.mono_l k
    refine ⟨?_, ?_, ?_, ?_, ?_, ?_⟩
    · intro y0 y1
      unfold gimballaw30_LogRecords.l0
      repeat' first
      | (with_reducible exact ih0 _ _)
      | (with_reducible exact ih1 _ _ _)
      | (with_reducible exact ih2 _ _ _ _ _ _ _ _ _ _)
      | (with_reducible exact ih3 _ _ _ _ _ _ _ _ _ _ _)
      | (with_reducible exact ih4 _ _ _ _ _ _ _ _ _ _ _ _)
      | (with_reducible exact ih5 _ _ _ _ _ _ _ _ _ _)
      | (with_reducible exact gimbalref0_EqEntry.mono _ _ _ _ _)
      | (with_reducible exact log_Pack.mono _ _ _)
      | (with_reducible exact LeO.refl _)
      | (with_reducible exact LeO.none _)
      | (with_reducible refine LeO.ite ?_ ?_)
      | (with_reducible refine LeO.bind ?_ (fun _ => ?_))
      | exact ih0 _ _
      | exact ih1 _ _ _
      | exact ih2 _ _ _ _ _ _ _ _ _ _
      | exact ih3 _ _ _ _ _ _ _ _ _ _ _
      | exact ih4 _ _ _ _ _ _ _ _ _ _ _ _
      | exact ih5 _ _ _ _ _ _ _ _ _ _
      | exact gimbalref0_EqEntry.mono _ _ _ _ _
      | exact log_Pack.mono _ _ _
      | exact LeO.none _
      | refine LeO.ite ?_ ?_
      | refine LeO.bind ?_ (fun _ => ?_)
    · intro y0 y1 y2
      unfold gimballaw30_LogRecords.j1
      repeat' first
      | (with_reducible exact ih0 _ _)
      | (with_reducible exact ih1 _ _ _)
      | (with_reducible exact ih2 _ _ _ _ _ _ _ _ _ _)
      | (with_reducible exact ih3 _ _ _ _ _ _ _ _ _ _ _)
      | (with_reducible exact ih4 _ _ _ _ _ _ _ _ _ _ _ _)
      | (with_reducible exact ih5 _ _ _ _ _ _ _ _ _ _)
      | (with_reducible exact gimbalref0_EqEntry.mono _ _ _ _ _)
      | (with_reducible exact log_Pack.mono _ _ _)
      | (with_reducible exact LeO.refl _)
      | (with_reducible exact LeO.none _)
      | (with_reducible refine LeO.ite ?_ ?_)
      | (with_reducible refine LeO.bind ?_ (fun _ => ?_))
      | exact ih0 _ _
      | exact ih1 _ _ _
      | exact ih2 _ _ _ _ _ _ _ _ _ _
      | exact ih3 _ _ _ _ _ _ _ _ _ _ _
      | exact ih4 _ _ _ _ _ _ _ _ _ _ _ _
      | exact ih5 _ _ _ _ _ _ _ _ _ _
      | exact gimbalref0_EqEntry.mono _ _ _ _ _
      | exact log_Pack.mono _ _ _
      | exact LeO.none _
      | refine LeO.ite ?_ ?_
      | refine LeO.bind ?_ (fun _ => ?_)
    · intro y0 y1 y2 y3 y4 y5 y6 y7 y8 y9
      unfold gimballaw30_LogRecords.j2
      repeat' first
      | (with_reducible exact ih0 _ _)
      | (with_reducible exact ih1 _ _ _)
      | (with_reducible exact ih2 _ _ _ _ _ _ _ _ _ _)
      | (with_reducible exact ih3 _ _ _ _ _ _ _ _ _ _ _)
      | (with_reducible exact ih4 _ _ _ _ _ _ _ _ _ _ _ _)
      | (with_reducible exact ih5 _ _ _ _ _ _ _ _ _ _)
      | (with_reducible exact gimbalref0_EqEntry.mono _ _ _ _ _)
      | (with_reducible exact log_Pack.mono _ _ _)
      | (with_reducible exact LeO.refl _)
      | (with_reducible exact LeO.none _)
      | (with_reducible refine LeO.ite ?_ ?_)
      | (with_reducible refine LeO.bind ?_ (fun _ => ?_))
      | exact ih0 _ _
      | exact ih1 _ _ _
      | exact ih2 _ _ _ _ _ _ _ _ _ _
      | exact ih3 _ _ _ _ _ _ _ _ _ _ _
      | exact ih4 _ _ _ _ _ _ _ _ _ _ _ _
      | exact ih5 _ _ _ _ _ _ _ _ _ _
      | exact gimbalref0_EqEntry.mono _ _ _ _ _
      | exact log_Pack.mono _ _ _
      | exact LeO.none _
      | refine LeO.ite ?_ ?_
      | refine LeO.bind ?_ (fun _ => ?_)
    · intro y0 y1 y2 y3 y4 y5 y6 y7 y8 y9 y10
      unfold gimballaw30_LogRecords.j3
      repeat' first
      | (with_reducible exact ih0 _ _)
      | (with_reducible exact ih1 _ _ _)
      | (with_reducible exact ih2 _ _ _ _ _ _ _ _ _ _)
      | (with_reducible exact ih3 _ _ _ _ _ _ _ _ _ _ _)
      | (with_reducible exact ih4 _ _ _ _ _ _ _ _ _ _ _ _)
      | (with_reducible exact ih5 _ _ _ _ _ _ _ _ _ _)
      | (with_reducible exact gimbalref0_EqEntry.mono _ _ _ _ _)
      | (with_reducible exact log_Pack.mono _ _ _)
      | (with_reducible exact LeO.refl _)
      | (with_reducible exact LeO.none _)
      | (with_reducible refine LeO.ite ?_ ?_)
      | (with_reducible refine LeO.bind ?_ (fun _ => ?_))
      | exact ih0 _ _
      | exact ih1 _ _ _
      | exact ih2 _ _ _ _ _ _ _ _ _ _
      | exact ih3 _ _ _ _ _ _ _ _ _ _ _
      | exact ih4 _ _ _ _ _ _ _ _ _ _ _ _
      | exact ih5 _ _ _ _ _ _ _ _ _ _
      | exact gimbalref0_EqEntry.mono _ _ _ _ _
      | exact log_Pack.mono _ _ _
      | exact LeO.none _
      | refine LeO.ite ?_ ?_
      | refine LeO.bind ?_ (fun _ => ?_)
    · intro y0 y1 y2 y3 y4 y5 y6 y7 y8 y9 y10 y11
      unfold gimballaw30_LogRecords.l1
      repeat' first
      | (with_reducible exact ih0 _ _)
      | (with_reducible exact ih1 _ _ _)
      | (with_reducible exact ih2 _ _ _ _ _ _ _ _ _ _)
      | (with_reducible exact ih3 _ _ _ _ _ _ _ _ _ _ _)
      | (with_reducible exact ih4 _ _ _ _ _ _ _ _ _ _ _ _)
      | (with_reducible exact ih5 _ _ _ _ _ _ _ _ _ _)
      | (with_reducible exact gimbalref0_EqEntry.mono _ _ _ _ _)
      | (with_reducible exact log_Pack.mono _ _ _)
      | (with_reducible exact LeO.refl _)
      | (with_reducible exact LeO.none _)
      | (with_reducible refine LeO.ite ?_ ?_)
      | (with_reducible refine LeO.bind ?_ (fun _ => ?_))
      | exact ih0 _ _
      | exact ih1 _ _ _
      | exact ih2 _ _ _ _ _ _ _ _ _ _
      | exact ih3 _ _ _ _ _ _ _ _ _ _ _
      | exact ih4 _ _ _ _ _ _ _ _ _ _ _ _
      | exact ih5 _ _ _ _ _ _ _ _ _ _
      | exact gimbalref0_EqEntry.mono _ _ _ _ _
      | exact log_Pack.mono _ _ _
      | exact LeO.none _
      | refine LeO.ite ?_ ?_
      | refine LeO.bind ?_ (fun _ => ?_)
    · intro y0 y1 y2 y3 y4 y5 y6 y7 y8 y9
      unfold gimballaw30_LogRecords.j5
      repeat' first
      | (with_reducible exact ih0 _ _)
      | (with_reducible exact ih1 _ _ _)
      | (with_reducible exact ih2 _ _ _ _ _ _ _ _ _ _)
      | (with_reducible exact ih3 _ _ _ _ _ _ _ _ _ _ _)
      | (with_reducible exact ih4 _ _ _ _ _ _ _ _ _ _ _ _)
      | (with_reducible exact ih5 _ _ _ _ _ _ _ _ _ _)
      | (with_reducible exact gimbalref0_EqEntry.mono _ _ _ _ _)
      | (with_reducible exact log_Pack.mono _ _ _)
      | (with_reducible exact LeO.refl _)
      | (with_reducible exact LeO.none _)
      | (with_reducible refine LeO.ite ?_ ?_)
      | (with_reducible refine LeO.bind ?_ (fun _ => ?_))
      | exact ih0 _ _
      | exact ih1 _ _ _
      | exact ih2 _ _ _ _ _ _ _ _ _ _
      | exact ih3 _ _ _ _ _ _ _ _ _ _ _
      | exact ih4 _ _ _ _ _ _ _ _ _ _ _ _
      | exact ih5 _ _ _ _ _ _ _ _ _ _
      | exact gimbalref0_EqEntry.mono _ _ _ _ _
      | exact log_Pack.mono _ _ _
      | exact LeO.none _
      | refine LeO.ite ?_ ?_
      | refine LeO.bind ?_ (fun _ => ?_)
theorem gimballaw30_LogRecords.mono : ∀ a0 k, LeO (gimballaw30_LogRecords.f k a0) (gimballaw30_LogRecords.f (k + 1) a0) := by
  intro a0 k
  obtain ⟨ih0, ih1, ih2, ih3, ih4, ih5⟩ := gimballaw30_LogRecords.mono_l k
  unfold gimballaw30_LogRecords.f
  repeat' first
      | (with_reducible exact ih0 _ _)
      | (with_reducible exact ih1 _ _ _)
      | (with_reducible exact ih2 _ _ _ _ _ _ _ _ _ _)
      | (with_reducible exact ih3 _ _ _ _ _ _ _ _ _ _ _)
      | (with_reducible exact ih4 _ _ _ _ _ _ _ _ _ _ _ _)
      | (with_reducible exact ih5 _ _ _ _ _ _ _ _ _ _)
      | (with_reducible exact gimbalref0_EqEntry.mono _ _ _ _ _)
      | (with_reducible exact log_Pack.mono _ _ _)
      | (with_reducible exact LeO.refl _)
      | (with_reducible exact LeO.none _)
      | (with_reducible refine LeO.ite ?_ ?_)
      | (with_reducible refine LeO.bind ?_ (fun _ => ?_))
      | exact ih0 _ _
      | exact ih1 _ _ _
      | exact ih2 _ _ _ _ _ _ _ _ _ _
      | exact ih3 _ _ _ _ _ _ _ _ _ _ _
      | exact ih4 _ _ _ _ _ _ _ _ _ _ _ _
      | exact ih5 _ _ _ _ _ _ _ _ _ _
      | exact gimbalref0_EqEntry.mono _ _ _ _ _
      | exact log_Pack.mono _ _ _
      | exact LeO.none _
      | refine LeO.ite ?_ ?_
      | refine LeO.bind ?_ (fun _ => ?_)
def gimballaw30_LogRecords.T7 : Bool × List (List Nat × List Nat) := (true, [([], []), ([0], [0]), ([1], [1]), ([2, 1], [2]), ([3], [3]), ([4, 3], [3, 4]), ([3], [3]), ([6, 3], [3, 6]), ([7, 3], [3, 7]), ([8, 3], [3, 8]), ([9, 3], [3, 9]), ([10, 3], [3, 10]), ([11, 3], [3, 11]), ([5, 12, 3], [3, 5, 12]), ([3, 13], [3, 13]), ([14, 3], [14]), ([15], [15]), ([16, 15], [15, 16]), ([17, 15], [15, 17]), ([15], [15]), ([19, 15], [15, 19]), ([20, 15], [15, 20]), ([21, 15], [15, 21]), ([15], [15]), ([23, 15], [15, 23]), ([24, 15], [15, 24]), ([25, 15], [15, 25]), ([22, 26, 15], [15, 22, 26]), ([27, 15], [15, 27]), ([28, 15], [15, 28]), ([18, 29, 15], [15, 18, 29]), ([15, 30], [15, 30]), ([31, 15], [31]), ([32], [32]), ([32], [32]), ([34, 32], [32, 34]), ([35, 32], [32, 35]), ([33, 36, 32], [32, 33, 36]), ([37, 32], [32, 37]), ([38, 32], [32, 38]), ([39, 32], [32, 39]), ([32, 40], [32, 40])])
def gimballaw30_LogRecords.B7 : List Nat := [0, 1, 3, 7, 15, 31, 15, 79, 207, 463, 975, 1999, 4047, 8191, 16383, 32767, 65535, 131071, 262143, 65535, 589823, 1638399, 3735551, 65535, 8454143, 25231359, 58785791, 133758975, 267976703, 536412159, 1073741823, 2147483647, 4294967295, 8589934591, 8589934591, 25769803775, 60129542143, 137438953471, 274877906943, 549755813887, 1099511627775, 2199023255551]
theorem gimballaw30_LogRecords.tab7 : rtab .any (opsOf Try.f3 7) = gimballaw30_LogRecords.T7 := by kernel_rfl
theorem gimballaw30_LogRecords.bits7 : waitsOk gimballaw30_LogRecords.T7.2 gimballaw30_LogRecords.B7 = true := by kernel_rfl
def gimballaw30_LogRecords.T16 : Bool × List (List Nat × List Nat) := (true, [([], []), ([0], [0]), ([1], [1]), ([2, 1], [2]), ([3], [3]), ([3], [3]), ([5, 3], [3, 5]), ([6, 3], [3, 6]), ([4, 7, 3], [3, 4, 7]), ([3, 8], [3, 8]), ([9, 3], [9]), ([10], [10]), ([11, 10], [10, 11]), ([12, 10], [10, 12]), ([10, 13], [10, 13]), ([14, 10], [14]), ([15], [15]), ([16, 15], [15, 16]), ([17, 15], [15, 17]), ([15], [15]), ([19, 15], [15, 19]), ([18, 20, 15, 15], [15, 18, 20]), ([21, 15], [15, 21]), ([15, 22], [15, 22])])
def gimballaw30_LogRecords.B16 : List Nat := [0, 1, 3, 7, 15, 15, 47, 111, 255, 511, 1023, 2047, 4095, 8191, 16383, 32767, 65535, 131071, 262143, 65535, 589823, 2097151, 4194303, 8388607]
theorem gimballaw30_LogRecords.tab16 : rtab .any (opsOf Try.f3 16) = gimballaw30_LogRecords.T16 := by kernel_rfl
theorem gimballaw30_LogRecords.bits16 : waitsOk gimballaw30_LogRecords.T16.2 gimballaw30_LogRecords.B16 = true := by kernel_rfl
end Go.Proofs.Ytbleapgklbohcaa.PLogRecords
