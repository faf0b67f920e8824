import Derived.Test.YtfdfnmlbmijdjaaPRateTablesx0
import Derived.Test.YtfdfnmlbmijdjaaPRateTablesx2
namespace Go.Proofs.Ytfdfnmlbmijdjaa.PRateTables
open Go.RowKit Go.Proofs.YtfdfnmlbmijdjaaW.PrintWords Go.Proofs.YtfdfnmlbmijdjaaW.PrintLast Go.Proofs.YtfdfnmlbmijdjaaW.PrintMore
attribute [local go_sem] max2_int min2_int max_two min_two max_three min_three max_four min_four   -- for this text's walks alone
set_option linter.unusedVariables false
set_option linter.unusedSimpArgs false

/-! ### gimballaw27_wakes: function 14 -/
def gimballaw27_wakes.f (k : Nat)  : Option (Bool) := (rate_New.f).bind fun t117 => ((rate_Table_Add.f t117 2 5 10 0).bind fun bt119 => ((gimballaw27_num.f bt119.1).bind fun t121 => (if t121 = 0 then ((rate_Table_Take.f bt119.2 5 0).bind fun bt122 => ((gimballaw27_num.f bt122.2.1).bind fun t127 => (if t127 = 0 then ((gimbalref0_EqNumbers.f k bt122.1 (([2] : List Int))).bind fun t131 => (some t131)) else (some false)))) else (some false))))
theorem gimballaw27_wakes.mono : ∀ k, LeO (gimballaw27_wakes.f k ) (gimballaw27_wakes.f (k + 1) ) := by
 intro  k
 unfold gimballaw27_wakes.f
 repeat' first
   | (with_reducible exact gimbalref0_EqNumbers.mono _ _ _)
   | (with_reducible exact LeO.refl _)
   | (with_reducible exact LeO.none _)
   | (with_reducible refine LeO.ite ?_ ?_)
   | (with_reducible refine LeO.bind ?_ (fun _ => ?_))
   | exact gimbalref0_EqNumbers.mono _ _ _
   | exact LeO.none _
   | refine LeO.ite ?_ ?_
   | refine LeO.bind ?_ (fun _ => ?_)
set_option maxHeartbeats 8000000 in
set_option maxRecDepth 100000 in
theorem gimballaw27_wakes.calls (k : Nat)  (r : Bool) (w : World) (h : gimballaw27_wakes.f k  = some r) :
  Calls Try.prog 14 #[] w fun e w' => e = .returned (.bool r) ∧ Below w.heap.size w w' := by
 have hu29 := Try.underlying29
 have HB := Aside0.mk (Below.refl w.heap.size w)
 have H : ((rate_New.f).bind fun t117 => ((rate_Table_Add.f t117 2 5 10 0).bind fun bt119 => ((gimballaw27_num.f bt119.1).bind fun t121 => (if t121 = 0 then ((rate_Table_Take.f bt119.2 5 0).bind fun bt122 => ((gimballaw27_num.f bt122.2.1).bind fun t127 => (if t127 = 0 then ((gimbalref0_EqNumbers.f k bt122.1 (([2] : List Int))).bind fun t131 => (some t131)) else (some false)))) else (some false))))) = some r := h
 clear h
 replace H := Option.bind_eq_some_iff.mp H
 obtain ⟨t117, A10, H⟩ := H
 replace H : ((rate_Table_Add.f t117 2 5 10 0).bind fun bt119 => ((gimballaw27_num.f bt119.1).bind fun t121 => (if t121 = 0 then ((rate_Table_Take.f bt119.2 5 0).bind fun bt122 => ((gimballaw27_num.f bt122.2.1).bind fun t127 => (if t127 = 0 then ((gimbalref0_EqNumbers.f k bt122.1 (([2] : List Int))).bind fun t131 => (some t131)) else (some false)))) else (some false)))) = some r := H
 have A1 := Aside0.mk A10
 clear A10
 replace H := Option.bind_eq_some_iff.mp H
 obtain ⟨⟨t119, t120⟩, A20, H⟩ := H
 replace H : ((gimballaw27_num.f t119).bind fun t121 => (if t121 = 0 then ((rate_Table_Take.f t120 5 0).bind fun bt122 => ((gimballaw27_num.f bt122.2.1).bind fun t127 => (if t127 = 0 then ((gimbalref0_EqNumbers.f k bt122.1 (([2] : List Int))).bind fun t131 => (some t131)) else (some false)))) else (some false))) = some r := H
 have A2 := Aside0.mk A20
 clear A20
 replace H := Option.bind_eq_some_iff.mp H
 obtain ⟨t121, A30, H⟩ := H
 replace H : (if t121 = 0 then ((rate_Table_Take.f t120 5 0).bind fun bt122 => ((gimballaw27_num.f bt122.2.1).bind fun t127 => (if t127 = 0 then ((gimbalref0_EqNumbers.f k bt122.1 (([2] : List Int))).bind fun t131 => (some t131)) else (some false)))) else (some false)) = some r := H
 have A3 := Aside0.mk A30
 clear A30
 by_cases c4 : t121 = 0
 ·rw [if_pos c4] at H
  have c4b0 : (t121 == 0) = true := beq_iff_eq.mpr c4
  have c4b1 : (t121 != 0) = false := bne_eq_false_iff_eq.mpr c4
  clear c4
  replace H := Option.bind_eq_some_iff.mp H
  obtain ⟨⟨t122, t125, t126⟩, A50, H⟩ := H
  replace H : ((gimballaw27_num.f t125).bind fun t127 => (if t127 = 0 then ((gimbalref0_EqNumbers.f k t122 (([2] : List Int))).bind fun t131 => (some t131)) else (some false))) = some r := H
  have A5 := Aside0.mk A50
  clear A50
  replace H := Option.bind_eq_some_iff.mp H
  obtain ⟨t127, A60, H⟩ := H
  replace H : (if t127 = 0 then ((gimbalref0_EqNumbers.f k t122 (([2] : List Int))).bind fun t131 => (some t131)) else (some false)) = some r := H
  have A6 := Aside0.mk A60
  clear A60
  by_cases c7 : t127 = 0
  ·rw [if_pos c7] at H
   have c7b0 : (t127 == 0) = true := beq_iff_eq.mpr c7
   have c7b1 : (t127 != 0) = false := bne_eq_false_iff_eq.mpr c7
   clear c7
   obtain ⟨y128, hy128⟩ : ∃ y_ : List Int, y_ = (([2] : List Int)) := ⟨_, rfl⟩
   replace H : ((gimbalref0_EqNumbers.f k t122 y128).bind fun t131 => (some t131)) = some r := by first | (rw [hy128]; with_reducible exact H) | (have H2_ := (Option.bind_some _ _).symm.trans H; rw [hy128]; with_reducible exact H2_) | (have H2_ := (Option.bind_some _ _).symm.trans H; with_reducible exact H2_) | with_reducible exact H | (rw [hy128]; exact H) | exact H
   have Ny128 := Aside0.mk hy128
   clear hy128
   replace H := Option.bind_eq_some_iff.mp H
   obtain ⟨t131, A80, H⟩ := H
   replace H : (some t131) = some r := H
   have A8 := Aside0.mk A80
   clear A80
   obtain rfl := Option.some.inj H
   go_enter Try.func14, Try.ntmps14
   go_wp2_with (first | ((with_reducible refine gate_callee (f := 6) rfl ?_); refine goesL_ (some 4) rfl rfl Try.func6 (by kernel_rfl) rfl #[] rfl Sq.m ?_; (with_reducible refine (rate_New.calls  t117 w _ ?side1 A1.out).mono ?_); (case side1 => repeat (first | (with_reducible first | exact HB.out | apply below_alloc | apply pw_below_drewN | apply below_drew1) | exact HB.out)); rintro e w9 ⟨g118, rfl, hi, hb, hb2⟩; refine ⟨_, rfl, ?_⟩; have HI118 := Aside0.mk (hi); replace HB := Aside0.mk (hb); (try clear hb); (try clear hb2); (try clear hk); (try clear hi)) | (go_at_call 9; (with_reducible refine (rate_Table_Add.calls g118 t117 2 5 10 0 t119 t120 w _ ?side1 ?side2 A2.out).mono ?_); (case side1 => repeat (first | (with_reducible first | exact HI118.out | apply IsS65.alloc | apply IsS65.drewN | apply IsS65.drew | apply IsS65.set_0) | exact HI118.out)); (case side2 => repeat (first | (with_reducible first | exact HB.out | apply below_alloc | apply pw_below_drewN | apply below_drew1 | refine below_set ?_ (IsS65.ge HI118.out)) | exact HB.out)); rintro e w10 ⟨rfl, hi, hb, hk⟩; replace HB := Aside0.mk (hb); replace HI118 := Aside0.mk (hi); (try clear hb); (try clear hb2); (try clear hk); (try clear hi)) | (go_at_call 8; (with_reducible refine (gimballaw27_num.calls t119 t121 _ A3.out).mono ?_); rintro e w' ⟨rfl, ⟨nd, rfl⟩⟩) | ((with_reducible refine gate_callee (f := 11) rfl ?_); refine goesL_ (some 16) rfl rfl Try.func11 (by kernel_rfl) rfl #[.pointer (some ⟨g118, 0, none⟩), .int .i64 5, .int .i64 0] rfl Sq.m ?_; (with_reducible refine (rate_Table_Take.calls g118 t120 5 0 t122 t125 t126 w _ ?side1 ?side2 A5.out).mono ?_); (case side1 => repeat (first | (with_reducible first | exact HI118.out | apply IsS65.alloc | apply IsS65.drewN | apply IsS65.drew | apply IsS65.set_0) | exact HI118.out)); (case side2 => repeat (first | (with_reducible first | exact HB.out | apply below_alloc | apply pw_below_drewN | apply below_drew1 | refine below_set ?_ (IsS65.ge HI118.out)) | exact HB.out)); rintro e w11 ⟨v123, rfl, ho0, hi, hb, hk⟩; refine ⟨_, rfl, ?_⟩; have HO124 := Aside0.mk (Kd.R_lower ho0 (below_size (by repeat (first | (with_reducible first | exact HB.out | apply below_alloc | apply pw_below_drewN | apply below_drew1 | refine below_set ?_ (IsS65.ge HI118.out)) | exact HB.out)))); replace HB := Aside0.mk (hb); replace HI118 := Aside0.mk (hi); (try clear hb); (try clear hb2); (try clear hk); (try clear hi); (try clear ho0)) | ((with_reducible refine gate_callee (f := 8) rfl ?_); refine goesL_ (some 20) rfl rfl Try.func8 (by kernel_rfl) rfl #[.int .i64 t125] rfl Sq.m ?_; (with_reducible refine (gimballaw27_num.calls t125 t127 _ A6.out).mono ?_); rintro e w' ⟨rfl, ⟨nd, rfl⟩⟩; refine ⟨_, rfl, ?_⟩) | ((with_reducible refine gate_dst (N := 24) rfl ?_); (try (refine gate_guard (by rfl) ?_; dsimp only)); refine Kd.R_lit (Kd.int .i64) _ 3 ?hg (N := 24) ?hd (xs := ([2] : List Int)) (inner := [.int .i64 2]) (ok := fun _ => True) (okp := fun _ => True) ?hr ?hp (fun _ hk => hk) trivial (Below.refl _ _) (Nat.le_refl _) (by simp) ?_; (case hd => rfl); (case hg => rfl); (case hr => first | (go_simp; done) | (go_simp; rfl)); (case hp => exact (Reps.one (show Kd.M (Kd.int .i64) _ _ _ 2 [.int .i64 2] from rfl) (Reps.none _ _))); intro v129 w12 ho13 hb hg_ hnew_; clear hg_ hnew_; (first | rw [← Ny128.out] at ho13 | (simp only [Int.reduceToNat] at ho13; rw [← Ny128.out] at ho13)); have n0_ := Aside0.mk (Kd.R_elder' (Sq.rR HO124.out) (Kd.R_base ho13) hb); have n1_ := Aside0.mk (Kd.R_lower (Kd.R_new' ho13 (Kd.R_lt (Sq.rR HO124.out))) (below_size (by repeat (first | (with_reducible first | exact HB.out | apply below_alloc | apply pw_below_drewN | apply below_drew1 | refine below_set ?_ (IsS65.ge HI118.out)) | exact HB.out)))); have n2_ := Aside0.mk (IsS65.below (by repeat (first | (with_reducible first | exact HI118.out | apply IsS65.alloc | apply IsS65.drewN | apply IsS65.drew | apply IsS65.set_0) | exact HI118.out)) hb); have n3_ := Aside0.mk (below_step (by repeat (first | (with_reducible first | exact HB.out | apply below_alloc | apply pw_below_drewN | apply below_drew1 | refine below_set ?_ (IsS65.ge HI118.out)) | exact HB.out)) hb); clear HO124; clear HI118; clear HB; have HO124 := n0_; have HO130 := n1_; have HI118 := n2_; have HB := n3_; clear n0_ n1_ n2_ n3_; clear hb ho13; obtain ⟨Ao14, co14, eo14⟩ := Kd.R_slice HO124.out; subst eo14; obtain ⟨Ao15, co15, eo15⟩ := Kd.R_slice HO130.out; subst eo15) | (go_at_call 21; (with_reducible refine (gimbalref0_EqNumbers.calls k _ _ t122 _ _ y128 t131 _ ?side1 ?side2 ?side3 ?side4 A8.out).mono ?_); (case side1 => repeat (first | exact (Kd.R_reads' HO124.out).2.2 | (with_reducible refine Kd.C_alloc ?_ _) | (with_reducible refine Kd.C_drewN ?_ _) | (with_reducible refine Kd.C_drew ?_))); (case side2 => exact (Kd.R_reads' HO124.out).2.1); (case side3 => repeat (first | exact (Kd.R_reads' HO130.out).2.2 | (with_reducible refine Kd.C_alloc ?_ _) | (with_reducible refine Kd.C_drewN ?_ _) | (with_reducible refine Kd.C_drew ?_))); (case side4 => exact (Kd.R_reads' HO130.out).2.1); rintro e w' ⟨rfl, ⟨nd, rfl⟩⟩))
   go_ret
   exact ⟨by first | rfl | (simp [errW_none, errW_some] <;> rfl) | (simp [*, errW_none, errW_some] <;> rfl), by repeat (first | (with_reducible first | exact HB.out | apply below_alloc | apply pw_below_drewN | apply below_drew1 | refine below_set ?_ (IsS65.ge HI118.out)) | exact HB.out)⟩
  ·rw [if_neg c7] at H
   have c7b0 : (t127 == 0) = false := beq_eq_false_iff_ne.mpr c7
   have c7b1 : (t127 != 0) = true := bne_iff_ne.mpr c7
   obtain rfl := Option.some.inj H
   go_enter Try.func14, Try.ntmps14
   go_wp2_with (first | ((with_reducible refine gate_callee (f := 6) rfl ?_); refine goesL_ (some 4) rfl rfl Try.func6 (by kernel_rfl) rfl #[] rfl Sq.m ?_; (with_reducible refine (rate_New.calls  t117 w _ ?side1 A1.out).mono ?_); (case side1 => repeat (first | (with_reducible first | exact HB.out | apply below_alloc | apply pw_below_drewN | apply below_drew1) | exact HB.out)); rintro e w16 ⟨g118, rfl, hi, hb, hb2⟩; refine ⟨_, rfl, ?_⟩; have HI118 := Aside0.mk (hi); replace HB := Aside0.mk (hb); (try clear hb); (try clear hb2); (try clear hk); (try clear hi)) | (go_at_call 9; (with_reducible refine (rate_Table_Add.calls g118 t117 2 5 10 0 t119 t120 w _ ?side1 ?side2 A2.out).mono ?_); (case side1 => repeat (first | (with_reducible first | exact HI118.out | apply IsS65.alloc | apply IsS65.drewN | apply IsS65.drew | apply IsS65.set_0) | exact HI118.out)); (case side2 => repeat (first | (with_reducible first | exact HB.out | apply below_alloc | apply pw_below_drewN | apply below_drew1 | refine below_set ?_ (IsS65.ge HI118.out)) | exact HB.out)); rintro e w17 ⟨rfl, hi, hb, hk⟩; replace HB := Aside0.mk (hb); replace HI118 := Aside0.mk (hi); (try clear hb); (try clear hb2); (try clear hk); (try clear hi)) | (go_at_call 8; (with_reducible refine (gimballaw27_num.calls t119 t121 _ A3.out).mono ?_); rintro e w' ⟨rfl, ⟨nd, rfl⟩⟩) | ((with_reducible refine gate_callee (f := 11) rfl ?_); refine goesL_ (some 16) rfl rfl Try.func11 (by kernel_rfl) rfl #[.pointer (some ⟨g118, 0, none⟩), .int .i64 5, .int .i64 0] rfl Sq.m ?_; (with_reducible refine (rate_Table_Take.calls g118 t120 5 0 t122 t125 t126 w _ ?side1 ?side2 A5.out).mono ?_); (case side1 => repeat (first | (with_reducible first | exact HI118.out | apply IsS65.alloc | apply IsS65.drewN | apply IsS65.drew | apply IsS65.set_0) | exact HI118.out)); (case side2 => repeat (first | (with_reducible first | exact HB.out | apply below_alloc | apply pw_below_drewN | apply below_drew1 | refine below_set ?_ (IsS65.ge HI118.out)) | exact HB.out)); rintro e w18 ⟨v123, rfl, ho0, hi, hb, hk⟩; refine ⟨_, rfl, ?_⟩; have HO124 := Aside0.mk (Kd.R_lower ho0 (below_size (by repeat (first | (with_reducible first | exact HB.out | apply below_alloc | apply pw_below_drewN | apply below_drew1 | refine below_set ?_ (IsS65.ge HI118.out)) | exact HB.out)))); replace HB := Aside0.mk (hb); replace HI118 := Aside0.mk (hi); (try clear hb); (try clear hb2); (try clear hk); (try clear hi); (try clear ho0)) | ((with_reducible refine gate_callee (f := 8) rfl ?_); refine goesL_ (some 20) rfl rfl Try.func8 (by kernel_rfl) rfl #[.int .i64 t125] rfl Sq.m ?_; (with_reducible refine (gimballaw27_num.calls t125 t127 _ A6.out).mono ?_); rintro e w' ⟨rfl, ⟨nd, rfl⟩⟩; refine ⟨_, rfl, ?_⟩))
   go_ret
   exact ⟨by first | rfl | (simp [errW_none, errW_some] <;> rfl) | (simp [*, errW_none, errW_some] <;> rfl), by repeat (first | (with_reducible first | exact HB.out | apply below_alloc | apply pw_below_drewN | apply below_drew1 | refine below_set ?_ (IsS65.ge HI118.out)) | exact HB.out)⟩
 ·rw [if_neg c4] at H
  have c4b0 : (t121 == 0) = false := beq_eq_false_iff_ne.mpr c4
  have c4b1 : (t121 != 0) = true := bne_iff_ne.mpr c4
  obtain rfl := Option.some.inj H
  go_enter Try.func14, Try.ntmps14
  go_wp2_with (first | ((with_reducible refine gate_callee (f := 6) rfl ?_); refine goesL_ (some 4) rfl rfl Try.func6 (by kernel_rfl) rfl #[] rfl Sq.m ?_; (with_reducible refine (rate_New.calls  t117 w _ ?side1 A1.out).mono ?_); (case side1 => repeat (first | (with_reducible first | exact HB.out | apply below_alloc | apply pw_below_drewN | apply below_drew1) | exact HB.out)); rintro e w19 ⟨g118, rfl, hi, hb, hb2⟩; refine ⟨_, rfl, ?_⟩; have HI118 := Aside0.mk (hi); replace HB := Aside0.mk (hb); (try clear hb); (try clear hb2); (try clear hk); (try clear hi)) | (go_at_call 9; (with_reducible refine (rate_Table_Add.calls g118 t117 2 5 10 0 t119 t120 w _ ?side1 ?side2 A2.out).mono ?_); (case side1 => repeat (first | (with_reducible first | exact HI118.out | apply IsS65.alloc | apply IsS65.drewN | apply IsS65.drew | apply IsS65.set_0) | exact HI118.out)); (case side2 => repeat (first | (with_reducible first | exact HB.out | apply below_alloc | apply pw_below_drewN | apply below_drew1 | refine below_set ?_ (IsS65.ge HI118.out)) | exact HB.out)); rintro e w20 ⟨rfl, hi, hb, hk⟩; replace HB := Aside0.mk (hb); replace HI118 := Aside0.mk (hi); (try clear hb); (try clear hb2); (try clear hk); (try clear hi)) | (go_at_call 8; (with_reducible refine (gimballaw27_num.calls t119 t121 _ A3.out).mono ?_); rintro e w' ⟨rfl, ⟨nd, rfl⟩⟩))
  go_ret
  exact ⟨by first | rfl | (simp [errW_none, errW_some] <;> rfl) | (simp [*, errW_none, errW_some] <;> rfl), by repeat (first | (with_reducible first | exact HB.out | apply below_alloc | apply pw_below_drewN | apply below_drew1 | refine below_set ?_ (IsS65.ge HI118.out)) | exact HB.out)⟩

/-! ### gimbalref25_in: function 36 -/
def gimbalref25_in.f (a0 : Int) (a1 : Int) (a2 : Int) : Option (Bool) := if a0 ≥ a1 then (some (decide (a0 ≤ a2))) else (some false)
set_option maxHeartbeats 8000000 in
set_option maxRecDepth 100000 in
theorem gimbalref25_in.calls (a0 : Int) (a1 : Int) (a2 : Int) (r : Bool) (w : World) (h : gimbalref25_in.f a0 a1 a2 = some r) :
  Calls Try.prog 36 #[.int .i64 a0, .int .i64 a1, .int .i64 a2] w fun e w' => e = .returned (.bool r) ∧ Drawn0 w w' := by
 have H : (if a0 ≥ a1 then (some (decide (a0 ≤ a2))) else (some false)) = some r := h
 clear h
 by_cases c4 : a0 ≥ a1
 ·rw [if_pos c4] at H
  have c4b0 : decide (a1 ≤ a0) = true := decide_eq_true c4
  clear c4
  obtain rfl := Option.some.inj H
  go_enter Try.func36, Try.ntmps36
  go_wp2
  go_ret
  exact ⟨by first | rfl | (simp; done) | (simp [*]; done), by repeat (first | exact Drawn0.refl _ | apply Drawn0.step)⟩
 ·rw [if_neg c4] at H
  have c4b0 : decide (a1 ≤ a0) = false := decide_eq_false c4
  clear c4
  obtain rfl := Option.some.inj H
  go_enter Try.func36, Try.ntmps36
  go_wp2
  go_ret
  exact ⟨by first | rfl | (simp; done) | (simp [*]; done), by repeat (first | exact Drawn0.refl _ | apply Drawn0.step)⟩

/-! ### gimbalref25_Client: function 34 -/
def gimbalref25_Client.f (a0 : Int) : Option (Bool) := (gimbalref25_in.f a0 0 7).bind fun t132 => (some t132)
set_option maxHeartbeats 8000000 in
set_option maxRecDepth 100000 in
theorem gimbalref25_Client.calls (a0 : Int) (r : Bool) (w : World) (h : gimbalref25_Client.f a0 = some r) :
  Calls Try.prog 34 #[.int .i64 a0] w fun e w' => e = .returned (.bool r) ∧ Drawn0 w w' := by
 have H : ((gimbalref25_in.f a0 0 7).bind fun t132 => (some t132)) = some r := h
 clear h
 replace H := Option.bind_eq_some_iff.mp H
 obtain ⟨t132, A20, H⟩ := H
 replace H : (some t132) = some r := H
 have A2 := Aside0.mk A20
 clear A20
 obtain rfl := Option.some.inj H
 go_enter Try.func34, Try.ntmps34
 go_wp2_with (first | ((with_reducible refine gate_callee (f := 36) rfl ?_); refine goesL_ (some 4) rfl rfl Try.func36 (by kernel_rfl) rfl #[.int .i64 a0, .int .i64 0, .int .i64 7] rfl Sq.m ?_; (with_reducible refine (gimbalref25_in.calls a0 0 7 t132 _ A2.out).mono ?_); rintro e w' ⟨rfl, ⟨nd, rfl⟩⟩; refine ⟨_, rfl, ?_⟩))
 go_ret
 exact ⟨by first | rfl | (simp; done) | (simp [*]; done), by repeat (first | exact Drawn0.refl _ | apply Drawn0.step)⟩

/-! ### gimbalref25_Sensor: function 35 -/
def gimbalref25_Sensor.f (a0 : Int) : Option (Bool) := (gimbalref25_in.f a0 1 15).bind fun t133 => (some t133)
set_option maxHeartbeats 8000000 in
set_option maxRecDepth 100000 in
theorem gimbalref25_Sensor.calls (a0 : Int) (r : Bool) (w : World) (h : gimbalref25_Sensor.f a0 = some r) :
  Calls Try.prog 35 #[.int .i64 a0] w fun e w' => e = .returned (.bool r) ∧ Drawn0 w w' := by
 have H : ((gimbalref25_in.f a0 1 15).bind fun t133 => (some t133)) = some r := h
 clear h
 replace H := Option.bind_eq_some_iff.mp H
 obtain ⟨t133, A20, H⟩ := H
 replace H : (some t133) = some r := H
 have A2 := Aside0.mk A20
 clear A20
 obtain rfl := Option.some.inj H
 go_enter Try.func35, Try.ntmps35
 go_wp2_with (first | ((with_reducible refine gate_callee (f := 36) rfl ?_); refine goesL_ (some 4) rfl rfl Try.func36 (by kernel_rfl) rfl #[.int .i64 a0, .int .i64 1, .int .i64 15] rfl Sq.m ?_; (with_reducible refine (gimbalref25_in.calls a0 1 15 t133 _ A2.out).mono ?_); rintro e w' ⟨rfl, ⟨nd, rfl⟩⟩; refine ⟨_, rfl, ?_⟩))
 go_ret
 exact ⟨by first | rfl | (simp; done) | (simp [*]; done), by repeat (first | exact Drawn0.refl _ | apply Drawn0.step)⟩

/-! ### gimbalref25_MaySub: function 15 -/
def gimbalref25_MaySub.f (a0_0 : Int) (a0_1 : Int) (a0_2 : Int) (a0_3 : Int) : Option (Bool) := (gimbalref25_Client.f a0_0).bind fun t135 => (if t135 = true then ((gimbalref25_Sensor.f a0_1).bind fun t136 => (if t136 = true then ((gimbalref25_in.f a0_2 1 1000).bind fun t137 => (if t137 = true then ((gimbalref25_in.f a0_3 0 60000).bind fun t138 => (some t138)) else (some false))) else (some false))) else (some false))
set_option maxHeartbeats 8000000 in
set_option maxRecDepth 100000 in
theorem gimbalref25_MaySub.calls (a0_0 : Int) (a0_1 : Int) (a0_2 : Int) (a0_3 : Int) (r : Bool) (w : World) (h : gimbalref25_MaySub.f a0_0 a0_1 a0_2 a0_3 = some r) :
  Calls Try.prog 15 #[.agg #[.int .i64 a0_0, .int .i64 a0_1, .int .i64 a0_2, .int .i64 a0_3]] w fun e w' => e = .returned (.bool r) ∧ Below w.heap.size w w' := by
 have hu29 := Try.underlying29
 have HB := Aside0.mk (Below.refl w.heap.size w)
 have H : ((gimbalref25_Client.f a0_0).bind fun t135 => (if t135 = true then ((gimbalref25_Sensor.f a0_1).bind fun t136 => (if t136 = true then ((gimbalref25_in.f a0_2 1 1000).bind fun t137 => (if t137 = true then ((gimbalref25_in.f a0_3 0 60000).bind fun t138 => (some t138)) else (some false))) else (some false))) else (some false))) = some r := h
 clear h
 replace H := Option.bind_eq_some_iff.mp H
 obtain ⟨t135, A20, H⟩ := H
 replace H : (if t135 = true then ((gimbalref25_Sensor.f a0_1).bind fun t136 => (if t136 = true then ((gimbalref25_in.f a0_2 1 1000).bind fun t137 => (if t137 = true then ((gimbalref25_in.f a0_3 0 60000).bind fun t138 => (some t138)) else (some false))) else (some false))) else (some false)) = some r := H
 have A2 := Aside0.mk A20
 clear A20
 by_cases c3 : t135 = true
 ·subst c3
  have H1 : ((gimbalref25_Sensor.f a0_1).bind fun t136 => (if t136 = true then ((gimbalref25_in.f a0_2 1 1000).bind fun t137 => (if t137 = true then ((gimbalref25_in.f a0_3 0 60000).bind fun t138 => (some t138)) else (some false))) else (some false))) = some r := by rw [if_pos rfl] at H; exact H
  clear H
  have H := H1
  clear H1
  replace H := Option.bind_eq_some_iff.mp H
  obtain ⟨t136, A40, H⟩ := H
  replace H : (if t136 = true then ((gimbalref25_in.f a0_2 1 1000).bind fun t137 => (if t137 = true then ((gimbalref25_in.f a0_3 0 60000).bind fun t138 => (some t138)) else (some false))) else (some false)) = some r := H
  have A4 := Aside0.mk A40
  clear A40
  by_cases c5 : t136 = true
  ·subst c5
   have H1 : ((gimbalref25_in.f a0_2 1 1000).bind fun t137 => (if t137 = true then ((gimbalref25_in.f a0_3 0 60000).bind fun t138 => (some t138)) else (some false))) = some r := by rw [if_pos rfl] at H; exact H
   clear H
   have H := H1
   clear H1
   replace H := Option.bind_eq_some_iff.mp H
   obtain ⟨t137, A60, H⟩ := H
   replace H : (if t137 = true then ((gimbalref25_in.f a0_3 0 60000).bind fun t138 => (some t138)) else (some false)) = some r := H
   have A6 := Aside0.mk A60
   clear A60
   by_cases c7 : t137 = true
   ·subst c7
    have H1 : ((gimbalref25_in.f a0_3 0 60000).bind fun t138 => (some t138)) = some r := by rw [if_pos rfl] at H; exact H
    clear H
    have H := H1
    clear H1
    replace H := Option.bind_eq_some_iff.mp H
    obtain ⟨t138, A80, H⟩ := H
    replace H : (some t138) = some r := H
    have A8 := Aside0.mk A80
    clear A80
    obtain rfl := Option.some.inj H
    go_enter Try.func15, Try.ntmps15
    go_wp2_with (first | ((with_reducible refine gate_dst (N := 1) rfl ?_); refine box_event ?hg (N := 1) ?hd (cs := #[.int .i64 a0_0, .int .i64 a0_1, .int .i64 a0_2, .int .i64 a0_3]) (t := 29) ?hr ?_; (case hd => rfl); (case hg => rfl); (case hr => first | (go_simp; done) | (go_simp; rfl)); intro gb134 hg w9 hbox hb; have BK134 := Aside0.mk hbox; have GW134 := Sq.ge hg HB; have GE134 := Sq.ge hg HB; replace HB := Sq.sw HB hb; clear hb hbox hg; obtain ⟨z10_0, z10_1, z10_2, z10_3⟩ := Sq.c4 BK134.out; obtain ⟨y10_0, y10_1, y10_2, y10_3⟩ := Sq.f4 BK134.out) | ((with_reducible refine gate_callee (f := 34) rfl ?_); refine goesL_ (some 5) rfl rfl Try.func34 (by kernel_rfl) rfl #[.int .i64 a0_0] rfl Sq.m ?_; (with_reducible refine (gimbalref25_Client.calls a0_0 true _ A2.out).mono ?_); rintro e w' ⟨rfl, ⟨nd, rfl⟩⟩; refine ⟨_, rfl, ?_⟩) | (go_at_call 35; (with_reducible refine (gimbalref25_Sensor.calls a0_1 true _ A4.out).mono ?_); rintro e w' ⟨rfl, ⟨nd, rfl⟩⟩) | (go_at_call 36; (with_reducible refine (gimbalref25_in.calls a0_2 1 1000 true _ A6.out).mono ?_); rintro e w' ⟨rfl, ⟨nd, rfl⟩⟩) | (go_at_call 36; (with_reducible refine (gimbalref25_in.calls a0_3 0 60000 t138 _ A8.out).mono ?_); rintro e w' ⟨rfl, ⟨nd, rfl⟩⟩))
    go_ret
    exact ⟨by first | rfl | (simp [errW_none, errW_some] <;> rfl) | (simp [*, errW_none, errW_some] <;> rfl), Sq.w HB.out⟩
   ·replace c7 := Bool.eq_false_iff.mpr c7
    subst c7
    have H1 : (some false) = some r := by rw [if_neg (show ¬ (false = true) by decide)] at H; exact H
    clear H
    have H := H1
    clear H1
    obtain rfl := Option.some.inj H
    go_enter Try.func15, Try.ntmps15
    go_wp2_with (first | ((with_reducible refine gate_dst (N := 1) rfl ?_); refine box_event ?hg (N := 1) ?hd (cs := #[.int .i64 a0_0, .int .i64 a0_1, .int .i64 a0_2, .int .i64 a0_3]) (t := 29) ?hr ?_; (case hd => rfl); (case hg => rfl); (case hr => first | (go_simp; done) | (go_simp; rfl)); intro gb134 hg w11 hbox hb; have BK134 := Aside0.mk hbox; have GW134 := Sq.ge hg HB; have GE134 := Sq.ge hg HB; replace HB := Sq.sw HB hb; clear hb hbox hg; obtain ⟨z12_0, z12_1, z12_2, z12_3⟩ := Sq.c4 BK134.out; obtain ⟨y12_0, y12_1, y12_2, y12_3⟩ := Sq.f4 BK134.out) | ((with_reducible refine gate_callee (f := 34) rfl ?_); refine goesL_ (some 5) rfl rfl Try.func34 (by kernel_rfl) rfl #[.int .i64 a0_0] rfl Sq.m ?_; (with_reducible refine (gimbalref25_Client.calls a0_0 true _ A2.out).mono ?_); rintro e w' ⟨rfl, ⟨nd, rfl⟩⟩; refine ⟨_, rfl, ?_⟩) | (go_at_call 35; (with_reducible refine (gimbalref25_Sensor.calls a0_1 true _ A4.out).mono ?_); rintro e w' ⟨rfl, ⟨nd, rfl⟩⟩) | (go_at_call 36; (with_reducible refine (gimbalref25_in.calls a0_2 1 1000 false _ A6.out).mono ?_); rintro e w' ⟨rfl, ⟨nd, rfl⟩⟩))
    go_ret
    exact ⟨by first | rfl | (simp [errW_none, errW_some] <;> rfl) | (simp [*, errW_none, errW_some] <;> rfl), Sq.w HB.out⟩
  ·replace c5 := Bool.eq_false_iff.mpr c5
   subst c5
   have H1 : (some false) = some r := by rw [if_neg (show ¬ (false = true) by decide)] at H; exact H
   clear H
   have H := H1
   clear H1
   obtain rfl := Option.some.inj H
   go_enter Try.func15, Try.ntmps15
   go_wp2_with (first | ((with_reducible refine gate_dst (N := 1) rfl ?_); refine box_event ?hg (N := 1) ?hd (cs := #[.int .i64 a0_0, .int .i64 a0_1, .int .i64 a0_2, .int .i64 a0_3]) (t := 29) ?hr ?_; (case hd => rfl); (case hg => rfl); (case hr => first | (go_simp; done) | (go_simp; rfl)); intro gb134 hg w13 hbox hb; have BK134 := Aside0.mk hbox; have GW134 := Sq.ge hg HB; have GE134 := Sq.ge hg HB; replace HB := Sq.sw HB hb; clear hb hbox hg; obtain ⟨z14_0, z14_1, z14_2, z14_3⟩ := Sq.c4 BK134.out; obtain ⟨y14_0, y14_1, y14_2, y14_3⟩ := Sq.f4 BK134.out) | ((with_reducible refine gate_callee (f := 34) rfl ?_); refine goesL_ (some 5) rfl rfl Try.func34 (by kernel_rfl) rfl #[.int .i64 a0_0] rfl Sq.m ?_; (with_reducible refine (gimbalref25_Client.calls a0_0 true _ A2.out).mono ?_); rintro e w' ⟨rfl, ⟨nd, rfl⟩⟩; refine ⟨_, rfl, ?_⟩) | (go_at_call 35; (with_reducible refine (gimbalref25_Sensor.calls a0_1 false _ A4.out).mono ?_); rintro e w' ⟨rfl, ⟨nd, rfl⟩⟩))
   go_ret
   exact ⟨by first | rfl | (simp [errW_none, errW_some] <;> rfl) | (simp [*, errW_none, errW_some] <;> rfl), Sq.w HB.out⟩
 ·replace c3 := Bool.eq_false_iff.mpr c3
  subst c3
  have H1 : (some false) = some r := by rw [if_neg (show ¬ (false = true) by decide)] at H; exact H
  clear H
  have H := H1
  clear H1
  obtain rfl := Option.some.inj H
  go_enter Try.func15, Try.ntmps15
  go_wp2_with (first | ((with_reducible refine gate_dst (N := 1) rfl ?_); refine box_event ?hg (N := 1) ?hd (cs := #[.int .i64 a0_0, .int .i64 a0_1, .int .i64 a0_2, .int .i64 a0_3]) (t := 29) ?hr ?_; (case hd => rfl); (case hg => rfl); (case hr => first | (go_simp; done) | (go_simp; rfl)); intro gb134 hg w15 hbox hb; have BK134 := Aside0.mk hbox; have GW134 := Sq.ge hg HB; have GE134 := Sq.ge hg HB; replace HB := Sq.sw HB hb; clear hb hbox hg; obtain ⟨z16_0, z16_1, z16_2, z16_3⟩ := Sq.c4 BK134.out; obtain ⟨y16_0, y16_1, y16_2, y16_3⟩ := Sq.f4 BK134.out) | ((with_reducible refine gate_callee (f := 34) rfl ?_); refine goesL_ (some 5) rfl rfl Try.func34 (by kernel_rfl) rfl #[.int .i64 a0_0] rfl Sq.m ?_; (with_reducible refine (gimbalref25_Client.calls a0_0 false _ A2.out).mono ?_); rintro e w' ⟨rfl, ⟨nd, rfl⟩⟩; refine ⟨_, rfl, ?_⟩))
  go_ret
  exact ⟨by first | rfl | (simp [errW_none, errW_some] <;> rfl) | (simp [*, errW_none, errW_some] <;> rfl), Sq.w HB.out⟩

/-! ### rate_Table_All: function 16 -/
-- given
def rate_Table_All.f (s : Rt.Tb) : Option (List (S29) × Rt.Tb) := if s.length < 1000000 then some (s.map (fun x => (⟨x.a, x.b, x.p, x.q⟩ : S29)), s) else none
theorem rate_Table_All.calls (g : Nat) (s : Rt.Tb) (r1 : List (S29)) (r2 : Rt.Tb) (w0 w : World) (hI : IsS65 w0 w g s) (hB : Below w0.heap.size w0 w) (h : rate_Table_All.f s = some (r1, r2)) :
    Calls Try.prog 16 #[.pointer (some ⟨g, 0, none⟩)] w fun e w' => ∃ v0_ : Value, e = .returned v0_ ∧ Kd.R k29 29 w' w.heap.size (fun _ => True) v0_ r1 ∧ IsS65 w0 w' g r2 ∧ Below w0.heap.size w0 w' ∧ KeepBut w w' g none := by
  obtain ⟨h1, h2, v, hT⟩ := hI
  unfold rate_Table_All.f at h
  by_cases hl : s.length < 1000000
  · rw [if_pos hl] at h
    injection h with h
    injection h with e1 e2
    subst e1 e2
    refine (Rt.all_ w0.heap.size g v s w hT (by omega)).mono fun e w' ⟨v', he, hR, hb⟩ => ⟨v', he, ?_, ⟨h1, h2, v, hT.below hb⟩, below_step hB hb, KeepBut.of_below hb g none⟩
    have h3 := Rt.R_conv (d' := k29) (fun x : Rt.Sb => (⟨x.a, x.b, x.p, x.q⟩ : S29)) rfl (fun {w base ok x cs} hM => by rw [Rt.kS_openM hM]; exact k29_mkM w base ok ⟨x.a, x.b, x.p, x.q⟩) hR
    rw [List.map_map] at h3
    exact h3
  · rw [if_neg hl] at h
    cases h

/-! ### rate_Table_Clear: function 17 -/
-- given
def rate_Table_Clear.f (_s : Rt.Tb) : Option Rt.Tb := some []
theorem rate_Table_Clear.calls (g : Nat) (s : Rt.Tb) (r : Rt.Tb) (w0 w : World) (hI : IsS65 w0 w g s) (hB : Below w0.heap.size w0 w) (h : rate_Table_Clear.f s = some r) :
    Calls Try.prog 17 #[.pointer (some ⟨g, 0, none⟩)] w fun e w' => e = .returned (.tuple #[]) ∧ IsS65 w0 w' g r ∧ Below w0.heap.size w0 w' ∧ KeepBut w w' g none := by
  obtain ⟨h1, h2, v, hT⟩ := hI
  obtain rfl := Option.some.inj h
  have hM2 : ∀ w', Rt.Moved w w' g none → Rt.MovT w0.heap.size w w' g := fun w' hM => ⟨hM.os, hM.tape, hM.output, hM.size, fun k hk hkg _ => hM.block k hk hkg (by simp)⟩
  refine (Rt.clear_ w0.heap.size g v s w hT).mono fun e w' ⟨he, hT', hM⟩ => ⟨he, ⟨h1, Rt.Srt.nil, _, hT'⟩, Rt.MovT.belowB (hM2 _ hM) hB h1 hB.size, KeepBut.of_movT (hM2 _ hM)⟩

end Go.Proofs.Ytfdfnmlbmijdjaa.PRateTables
