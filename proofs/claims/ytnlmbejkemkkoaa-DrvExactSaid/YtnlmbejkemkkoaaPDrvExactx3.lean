import Derived.Test.YtnlmbejkemkkoaaCut
import Derived.Test.YtnlmbejkemkkoaaPDrvExactx0
namespace Go.Proofs.Ytnlmbejkemkkoaa.PDrvExact
open Go.RowKit Go.Proofs.YtnlmbejkemkkoaaW.PrintWords Go.Proofs.YtnlmbejkemkkoaaW.PrintLast Go.Proofs.YtnlmbejkemkkoaaW.PrintMore
attribute [local go_sem] max2_int min2_int max_two min_two max_three min_three max_four min_four   -- for this text's walks alone
set_option linter.unusedVariables false
set_option linter.unusedSimpArgs false

/-! ### drv_Good: function 32 -/
-- given
def drv_Good.f (a0_0 : Int) (a0_1 : Int) (_a0_2 : Bool) (a0_3 : Int) (a0_4 : Int) (a0_5 : Int) (_a0_6 : Bool) (a0_7 : Int) (a0_8 : Int) : Option Bool := some (Dr.goodD a0_0 a0_1 a0_3 a0_4 a0_5 a0_7 a0_8)
theorem drv_Good.calls (a0_0 : Int) (a0_1 : Int) (a0_2 : Bool) (a0_3 : Int) (a0_4 : Int) (a0_5 : Int) (a0_6 : Bool) (a0_7 : Int) (a0_8 : Int) (r : Bool) (w : World) (h : drv_Good.f a0_0 a0_1 a0_2 a0_3 a0_4 a0_5 a0_6 a0_7 a0_8 = some r) :
    Calls Try.prog 32 #[.agg #[.int .i64 a0_0, .int .i64 a0_1, .bool a0_2, .int .i64 a0_3, .int .i64 a0_4, .int .i64 a0_5, .bool a0_6, .int .i64 a0_7, .int .i64 a0_8]] w fun e w' => e = .returned (.bool r) ∧ Below w.heap.size w w' := by
  have h' := Option.some.inj h
  subst h'
  refine (Dr.Good_any a0_0 a0_1 a0_2 a0_3 a0_4 a0_5 a0_6 a0_7 a0_8 w).mono fun e w' hh => ?_
  obtain ⟨he, hw⟩ := hh
  refine ⟨he, ?_⟩
  rw [hw]
  exact (Below.refl _ _).alloc (Nat.le_refl _) _

-- NOT PRINTED: function 50 (drv_always)

-- NOT PRINTED: function 51 (drv_read)

/-! ### drv_next: function 52 -/
def drv_next.f (a0_0 : Int) (a0_1 : Int) (a0_2 : Bool) (a0_3 : Int) (a0_4 : Int) (a0_5 : Int) (a0_6 : Bool) (a0_7 : Int) (a0_8 : Int) (l1 : List Int) : Option (Int × Int × Bool × Int × Int × Int × Bool × Int × Int × (List (S55))) := if (wrap64 (a0_4 + 1)) = 4 then (some (a0_0, a0_1, a0_2, a0_3, wrap64 (a0_4 + 1), a0_5, false, a0_7, a0_8, ([] : List (S55)))) else (some (a0_0, a0_1, a0_2, a0_3, wrap64 (a0_4 + 1), a0_5, a0_6, a0_7, a0_8, ([] : List (S55))))
set_option maxHeartbeats 8000000 in
set_option maxRecDepth 100000 in
theorem drv_next.calls (a0_0 : Int) (a0_1 : Int) (a0_2 : Bool) (a0_3 : Int) (a0_4 : Int) (a0_5 : Int) (a0_6 : Bool) (a0_7 : Int) (a0_8 : Int) (A1 : Option Addr) (c1 : Nat) (l1 : List Int) (r1 : Int) (r2 : Int) (r3 : Bool) (r4 : Int) (r5 : Int) (r6 : Int) (r7 : Bool) (r8 : Int) (r9 : Int) (r10 : List (S55)) (w : World) (hr1 : Kd.C (Kd.int .u8) w A1 l1.length l1) (hc1 : l1.length ≤ c1) (h : drv_next.f a0_0 a0_1 a0_2 a0_3 a0_4 a0_5 a0_6 a0_7 a0_8 l1 = some (r1, r2, r3, r4, r5, r6, r7, r8, r9, r10)) :
  Calls Try.prog 52 #[.agg #[.int .i64 a0_0, .int .i64 a0_1, .bool a0_2, .int .i64 a0_3, .int .i64 a0_4, .int .i64 a0_5, .bool a0_6, .int .i64 a0_7, .int .i64 a0_8], .slice A1 l1.length c1] w fun e w' => ∃ v9_ : Value, e = .returned (.tuple #[.agg #[.int .i64 r1, .int .i64 r2, .bool r3, .int .i64 r4, .int .i64 r5, .int .i64 r6, .bool r7, .int .i64 r8, .int .i64 r9], v9_]) ∧ Kd.R k55 55 w' w.heap.size (fun _ => True) v9_ r10 ∧ Below w.heap.size w w' := by
 have hu24 := Try.underlying24
 have HR1 := Aside0.mk hr1
 have HC1 := Aside0.mk hc1
 clear hr1 hc1
 have HB := Aside0.mk (Below.refl w.heap.size w)
 have H : (if (wrap64 (a0_4 + 1)) = 4 then (some (a0_0, a0_1, a0_2, a0_3, wrap64 (a0_4 + 1), a0_5, false, a0_7, a0_8, ([] : List (S55)))) else (some (a0_0, a0_1, a0_2, a0_3, wrap64 (a0_4 + 1), a0_5, a0_6, a0_7, a0_8, ([] : List (S55))))) = some (r1, r2, r3, r4, r5, r6, r7, r8, r9, r10) := h
 clear h
 by_cases c3 : (wrap64 (a0_4 + 1)) = 4
 ·rw [if_pos c3] at H
  have c3b0 : ((wrap64 (a0_4 + 1)) == 4) = true := beq_iff_eq.mpr c3
  have c3b1 : ((wrap64 (a0_4 + 1)) != 4) = false := bne_eq_false_iff_eq.mpr c3
  clear c3
  simp only [Option.some.injEq, Prod.mk.injEq] at H
  obtain ⟨rfl, rfl, rfl, rfl, rfl, rfl, rfl, rfl, rfl, rfl⟩ := H
  go_enter Try.func52, Try.ntmps52
  go_wp2_with (first | ((with_reducible refine gate_dst (N := 2) rfl ?_); refine box_event ?hg (N := 2) ?hd (cs := #[.int .i64 a0_0, .int .i64 a0_1, .bool a0_2, .int .i64 a0_3, .int .i64 a0_4, .int .i64 a0_5, .bool a0_6, .int .i64 a0_7, .int .i64 a0_8]) (t := 24) ?hr ?_; (case hd => rfl); (case hg => rfl); (case hr => first | (go_simp; done) | (go_simp; rfl)); intro gb101 hg w4 hbox hb; have BK101 := Aside0.mk hbox; have GW101 := Sq.ge hg HB; have GE101 := Sq.ge hg HB; replace HB := Sq.sw HB hb; clear hb hbox hg) | ((with_reducible refine gate_dst (N := 4) rfl ?_); refine box_event ?hg (N := 4) ?hd (cs := #[.int .i64 0, .int .i64 0, .bool false, .int .i64 0, .int .i64 0, .int .i64 0, .bool false, .int .i64 0, .int .i64 0]) (t := 24) ?hr ?_; (case hd => rfl); (case hg => rfl); (case hr => first | (go_simp; done) | (go_simp; rfl)); intro gb102 hg w5 hbox hb; have BK102 := Aside0.mk hbox; have GW102 := Sq.ge hg HB; have GE102 := Sq.ge hg HB; obtain ⟨NB101_102, NB102_101⟩ := Sq.np hg BK101; replace BK101 := Sq.sb BK101 hb; replace HB := Sq.sw HB hb; clear hb hbox hg; have b6 := NB101_102.out; have d6 := NB102_101.out; obtain ⟨z7_0, z7_1, z7_2, z7_3, z7_4, z7_5, z7_6, z7_7, z7_8⟩ := Sq.c9 BK101.out; obtain ⟨y7_0, y7_1, y7_2, y7_3, y7_4, y7_5, y7_6, y7_7, y7_8⟩ := Sq.f9 BK101.out; obtain ⟨z8_0, z8_1, z8_2, z8_3, z8_4, z8_5, z8_6, z8_7, z8_8⟩ := Sq.c9 BK102.out; obtain ⟨y8_0, y8_1, y8_2, y8_3, y8_4, y8_5, y8_6, y8_7, y8_8⟩ := Sq.f9 BK102.out))
  refine bodyPost_ret (results_ct rfl _ _ gb102 24 #[.int .i64 a0_0, .int .i64 a0_1, .bool a0_2, .int .i64 a0_3, .int .i64 (wrap64 (a0_4 + 1)), .int .i64 a0_5, .bool false, .int .i64 a0_7, .int .i64 a0_8] (0, 0) _ rfl (Sq.B BK102.out) Try.underlying24 rfl (by kernel_rfl)) rfl ?_
  exact ⟨_, by first | rfl | (simp [errW_none, errW_some] <;> rfl) | (simp [*, errW_none, errW_some] <;> rfl), by first | exact Kd.R_nil _ _ _ _ _ | exact Kd.N_nil _ _ _ _ _ | exact Kd.V_nil _ _ _ _ _ | exact Kd.Q_nil _ _ _ _ _ | exact Kd.S_nil _ _ _ _ _, Sq.w HB.out⟩
 ·rw [if_neg c3] at H
  have c3b0 : ((wrap64 (a0_4 + 1)) == 4) = false := beq_eq_false_iff_ne.mpr c3
  have c3b1 : ((wrap64 (a0_4 + 1)) != 4) = true := bne_iff_ne.mpr c3
  simp only [Option.some.injEq, Prod.mk.injEq] at H
  obtain ⟨rfl, rfl, rfl, rfl, rfl, rfl, rfl, rfl, rfl, rfl⟩ := H
  go_enter Try.func52, Try.ntmps52
  go_wp2_with (first | ((with_reducible refine gate_dst (N := 2) rfl ?_); refine box_event ?hg (N := 2) ?hd (cs := #[.int .i64 a0_0, .int .i64 a0_1, .bool a0_2, .int .i64 a0_3, .int .i64 a0_4, .int .i64 a0_5, .bool a0_6, .int .i64 a0_7, .int .i64 a0_8]) (t := 24) ?hr ?_; (case hd => rfl); (case hg => rfl); (case hr => first | (go_simp; done) | (go_simp; rfl)); intro gb101 hg w9 hbox hb; have BK101 := Aside0.mk hbox; have GW101 := Sq.ge hg HB; have GE101 := Sq.ge hg HB; replace HB := Sq.sw HB hb; clear hb hbox hg) | ((with_reducible refine gate_dst (N := 4) rfl ?_); refine box_event ?hg (N := 4) ?hd (cs := #[.int .i64 0, .int .i64 0, .bool false, .int .i64 0, .int .i64 0, .int .i64 0, .bool false, .int .i64 0, .int .i64 0]) (t := 24) ?hr ?_; (case hd => rfl); (case hg => rfl); (case hr => first | (go_simp; done) | (go_simp; rfl)); intro gb102 hg w10 hbox hb; have BK102 := Aside0.mk hbox; have GW102 := Sq.ge hg HB; have GE102 := Sq.ge hg HB; obtain ⟨NB101_102, NB102_101⟩ := Sq.np hg BK101; replace BK101 := Sq.sb BK101 hb; replace HB := Sq.sw HB hb; clear hb hbox hg; have b11 := NB101_102.out; have d11 := NB102_101.out; obtain ⟨z12_0, z12_1, z12_2, z12_3, z12_4, z12_5, z12_6, z12_7, z12_8⟩ := Sq.c9 BK101.out; obtain ⟨y12_0, y12_1, y12_2, y12_3, y12_4, y12_5, y12_6, y12_7, y12_8⟩ := Sq.f9 BK101.out; obtain ⟨z13_0, z13_1, z13_2, z13_3, z13_4, z13_5, z13_6, z13_7, z13_8⟩ := Sq.c9 BK102.out; obtain ⟨y13_0, y13_1, y13_2, y13_3, y13_4, y13_5, y13_6, y13_7, y13_8⟩ := Sq.f9 BK102.out))
  refine bodyPost_ret (results_ct rfl _ _ gb102 24 #[.int .i64 a0_0, .int .i64 a0_1, .bool a0_2, .int .i64 a0_3, .int .i64 (wrap64 (a0_4 + 1)), .int .i64 a0_5, .bool a0_6, .int .i64 a0_7, .int .i64 a0_8] (0, 0) _ rfl (Sq.B BK102.out) Try.underlying24 rfl (by kernel_rfl)) rfl ?_
  exact ⟨_, by first | rfl | (simp [errW_none, errW_some] <;> rfl) | (simp [*, errW_none, errW_some] <;> rfl), by first | exact Kd.R_nil _ _ _ _ _ | exact Kd.N_nil _ _ _ _ _ | exact Kd.V_nil _ _ _ _ _ | exact Kd.Q_nil _ _ _ _ _ | exact Kd.S_nil _ _ _ _ _, Sq.w HB.out⟩

-- NOT PRINTED: function 53 (drv_write)

/-! ### drv_counted: function 55 -/
def drv_counted.f (a0_0 : Int) (a0_1 : Int) (a0_2 : Bool) (a0_3 : Int) (a0_4 : Int) (a0_5 : Int) (a0_6 : Bool) (a0_7 : Int) (a0_8 : Int) (l1 : List Int) : Option (Int × Int × Bool × Int × Int × Int × Bool × Int × Int × (List (S55))) := if 0 < (l1.length : Int) then (if (wrap64 (rd l1 0)) > 0 then (some (a0_0, a0_1, a0_2, a0_3, 5, a0_5, a0_6, wrap64 (rd l1 0), a0_8, ([] : List (S55)))) else (some (a0_0, a0_1, a0_2, a0_3, a0_4, a0_5, a0_6, a0_7, a0_8, ([] : List (S55))))) else (none)
set_option maxHeartbeats 8000000 in
set_option maxRecDepth 100000 in
theorem drv_counted.calls (a0_0 : Int) (a0_1 : Int) (a0_2 : Bool) (a0_3 : Int) (a0_4 : Int) (a0_5 : Int) (a0_6 : Bool) (a0_7 : Int) (a0_8 : Int) (A1 : Option Addr) (c1 : Nat) (l1 : List Int) (r1 : Int) (r2 : Int) (r3 : Bool) (r4 : Int) (r5 : Int) (r6 : Int) (r7 : Bool) (r8 : Int) (r9 : Int) (r10 : List (S55)) (w : World) (hr1 : Kd.C (Kd.int .u8) w A1 l1.length l1) (hc1 : l1.length ≤ c1) (h : drv_counted.f a0_0 a0_1 a0_2 a0_3 a0_4 a0_5 a0_6 a0_7 a0_8 l1 = some (r1, r2, r3, r4, r5, r6, r7, r8, r9, r10)) :
  Calls Try.prog 55 #[.agg #[.int .i64 a0_0, .int .i64 a0_1, .bool a0_2, .int .i64 a0_3, .int .i64 a0_4, .int .i64 a0_5, .bool a0_6, .int .i64 a0_7, .int .i64 a0_8], .slice A1 l1.length c1] w fun e w' => ∃ v9_ : Value, e = .returned (.tuple #[.agg #[.int .i64 r1, .int .i64 r2, .bool r3, .int .i64 r4, .int .i64 r5, .int .i64 r6, .bool r7, .int .i64 r8, .int .i64 r9], v9_]) ∧ Kd.R k55 55 w' w.heap.size (fun _ => True) v9_ r10 ∧ Below w.heap.size w w' := by
 have hu24 := Try.underlying24
 have HR1 := Aside0.mk hr1
 have HC1 := Aside0.mk hc1
 clear hr1 hc1
 have HB := Aside0.mk (Below.refl w.heap.size w)
 have H : (if 0 < (l1.length : Int) then (if (wrap64 (rd l1 0)) > 0 then (some (a0_0, a0_1, a0_2, a0_3, 5, a0_5, a0_6, wrap64 (rd l1 0), a0_8, ([] : List (S55)))) else (some (a0_0, a0_1, a0_2, a0_3, a0_4, a0_5, a0_6, a0_7, a0_8, ([] : List (S55))))) else (none)) = some (r1, r2, r3, r4, r5, r6, r7, r8, r9, r10) := h
 clear h
 by_cases c3 : 0 < (l1.length : Int)
 ·rw [if_pos c3] at H
  have c3b0 : decide (0 < (l1.length : Int)) = true := decide_eq_true c3
  have c3b1 : decide (0 < l1.length) = true := decide_eq_true (by omega)
  clear c3
  by_cases c4 : (wrap64 (rd l1 0)) > 0
  ·rw [if_pos c4] at H
   have c4b0 : decide (0 < (wrap64 (rd l1 0))) = true := decide_eq_true c4
   clear c4
   simp only [Option.some.injEq, Prod.mk.injEq] at H
   obtain ⟨rfl, rfl, rfl, rfl, rfl, rfl, rfl, rfl, rfl, rfl⟩ := H
   go_enter Try.func55, Try.ntmps55
   go_wp2_with (first | ((with_reducible refine gate_dst (N := 2) rfl ?_); refine box_event ?hg (N := 2) ?hd (cs := #[.int .i64 a0_0, .int .i64 a0_1, .bool a0_2, .int .i64 a0_3, .int .i64 a0_4, .int .i64 a0_5, .bool a0_6, .int .i64 a0_7, .int .i64 a0_8]) (t := 24) ?hr ?_; (case hd => rfl); (case hg => rfl); (case hr => first | (go_simp; done) | (go_simp; rfl)); intro gb103 hg w5 hbox hb; have BK103 := Aside0.mk hbox; have GW103 := Sq.ge hg HB; have GE103 := Sq.ge hg HB; replace HB := Sq.sw HB hb; clear hb hbox hg) | ((with_reducible refine gate_dst (N := 4) rfl ?_); refine box_event ?hg (N := 4) ?hd (cs := #[.int .i64 0, .int .i64 0, .bool false, .int .i64 0, .int .i64 0, .int .i64 0, .bool false, .int .i64 0, .int .i64 0]) (t := 24) ?hr ?_; (case hd => rfl); (case hg => rfl); (case hr => first | (go_simp; done) | (go_simp; rfl)); intro gb104 hg w6 hbox hb; have BK104 := Aside0.mk hbox; have GW104 := Sq.ge hg HB; have GE104 := Sq.ge hg HB; obtain ⟨NB103_104, NB104_103⟩ := Sq.np hg BK103; replace BK103 := Sq.sb BK103 hb; replace HB := Sq.sw HB hb; clear hb hbox hg; have p105 : 0 ≤ (0 : Int) := (by omega); have q105 : 0 < (l1.length : Int) := of_decide_eq_true (by first | (with_reducible assumption) | assumption); obtain ⟨ad105, e105, hx105_0⟩ := Kd.at_int HR1.out 0 p105 q105; cases e105; have qi105 : (0 < l1.length) = True := eq_true (by omega); (try rw [show ((0 : Int)).toNat = 0 from rfl] at hx105_0); (try rw [Addr.add_zero'] at hx105_0); replace hx105_0 := (HB.out.cell (World.block_lt_of_cell? w _ hx105_0)).trans hx105_0; replace p105 := eq_true p105; replace q105 := eq_true q105; have b7 := NB103_104.out; have d7 := NB104_103.out; obtain ⟨z8_0, z8_1, z8_2, z8_3, z8_4, z8_5, z8_6, z8_7, z8_8⟩ := Sq.c9 BK103.out; obtain ⟨y8_0, y8_1, y8_2, y8_3, y8_4, y8_5, y8_6, y8_7, y8_8⟩ := Sq.f9 BK103.out; obtain ⟨z9_0, z9_1, z9_2, z9_3, z9_4, z9_5, z9_6, z9_7, z9_8⟩ := Sq.c9 BK104.out; obtain ⟨y9_0, y9_1, y9_2, y9_3, y9_4, y9_5, y9_6, y9_7, y9_8⟩ := Sq.f9 BK104.out))
   refine bodyPost_ret (results_ct rfl _ _ gb104 24 #[.int .i64 a0_0, .int .i64 a0_1, .bool a0_2, .int .i64 a0_3, .int .i64 5, .int .i64 a0_5, .bool a0_6, .int .i64 (wrap64 (rd l1 0)), .int .i64 a0_8] (0, 0) _ rfl (Sq.B BK104.out) Try.underlying24 rfl (by kernel_rfl)) rfl ?_
   exact ⟨_, by first | rfl | (simp [errW_none, errW_some] <;> rfl) | (simp [*, errW_none, errW_some] <;> rfl), by first | exact Kd.R_nil _ _ _ _ _ | exact Kd.N_nil _ _ _ _ _ | exact Kd.V_nil _ _ _ _ _ | exact Kd.Q_nil _ _ _ _ _ | exact Kd.S_nil _ _ _ _ _, Sq.w HB.out⟩
  ·rw [if_neg c4] at H
   have c4b0 : decide (0 < (wrap64 (rd l1 0))) = false := decide_eq_false c4
   clear c4
   simp only [Option.some.injEq, Prod.mk.injEq] at H
   obtain ⟨rfl, rfl, rfl, rfl, rfl, rfl, rfl, rfl, rfl, rfl⟩ := H
   go_enter Try.func55, Try.ntmps55
   go_wp2_with (first | ((with_reducible refine gate_dst (N := 2) rfl ?_); refine box_event ?hg (N := 2) ?hd (cs := #[.int .i64 a0_0, .int .i64 a0_1, .bool a0_2, .int .i64 a0_3, .int .i64 a0_4, .int .i64 a0_5, .bool a0_6, .int .i64 a0_7, .int .i64 a0_8]) (t := 24) ?hr ?_; (case hd => rfl); (case hg => rfl); (case hr => first | (go_simp; done) | (go_simp; rfl)); intro gb103 hg w10 hbox hb; have BK103 := Aside0.mk hbox; have GW103 := Sq.ge hg HB; have GE103 := Sq.ge hg HB; replace HB := Sq.sw HB hb; clear hb hbox hg) | ((with_reducible refine gate_dst (N := 4) rfl ?_); refine box_event ?hg (N := 4) ?hd (cs := #[.int .i64 0, .int .i64 0, .bool false, .int .i64 0, .int .i64 0, .int .i64 0, .bool false, .int .i64 0, .int .i64 0]) (t := 24) ?hr ?_; (case hd => rfl); (case hg => rfl); (case hr => first | (go_simp; done) | (go_simp; rfl)); intro gb104 hg w11 hbox hb; have BK104 := Aside0.mk hbox; have GW104 := Sq.ge hg HB; have GE104 := Sq.ge hg HB; obtain ⟨NB103_104, NB104_103⟩ := Sq.np hg BK103; replace BK103 := Sq.sb BK103 hb; replace HB := Sq.sw HB hb; clear hb hbox hg; have p105 : 0 ≤ (0 : Int) := (by omega); have q105 : 0 < (l1.length : Int) := of_decide_eq_true (by first | (with_reducible assumption) | assumption); obtain ⟨ad105, e105, hx105_0⟩ := Kd.at_int HR1.out 0 p105 q105; cases e105; have qi105 : (0 < l1.length) = True := eq_true (by omega); (try rw [show ((0 : Int)).toNat = 0 from rfl] at hx105_0); (try rw [Addr.add_zero'] at hx105_0); replace hx105_0 := (HB.out.cell (World.block_lt_of_cell? w _ hx105_0)).trans hx105_0; replace p105 := eq_true p105; replace q105 := eq_true q105; have b12 := NB103_104.out; have d12 := NB104_103.out; obtain ⟨z13_0, z13_1, z13_2, z13_3, z13_4, z13_5, z13_6, z13_7, z13_8⟩ := Sq.c9 BK103.out; obtain ⟨y13_0, y13_1, y13_2, y13_3, y13_4, y13_5, y13_6, y13_7, y13_8⟩ := Sq.f9 BK103.out; obtain ⟨z14_0, z14_1, z14_2, z14_3, z14_4, z14_5, z14_6, z14_7, z14_8⟩ := Sq.c9 BK104.out; obtain ⟨y14_0, y14_1, y14_2, y14_3, y14_4, y14_5, y14_6, y14_7, y14_8⟩ := Sq.f9 BK104.out))
   refine bodyPost_ret (results_ct rfl _ _ gb104 24 #[.int .i64 a0_0, .int .i64 a0_1, .bool a0_2, .int .i64 a0_3, .int .i64 a0_4, .int .i64 a0_5, .bool a0_6, .int .i64 a0_7, .int .i64 a0_8] (0, 0) _ rfl (Sq.B BK104.out) Try.underlying24 rfl (by kernel_rfl)) rfl ?_
   exact ⟨_, by first | rfl | (simp [errW_none, errW_some] <;> rfl) | (simp [*, errW_none, errW_some] <;> rfl), by first | exact Kd.R_nil _ _ _ _ _ | exact Kd.N_nil _ _ _ _ _ | exact Kd.V_nil _ _ _ _ _ | exact Kd.Q_nil _ _ _ _ _ | exact Kd.S_nil _ _ _ _ _, Sq.w HB.out⟩
 ·rw [if_neg c3] at H
  exact absurd H (by simp)

/-! ### bus_Check: function 68 -/
def bus_Check.l0 : Nat → Int → List Int → Int → Int → Option (Int)
 | 0, _, _, _, _ => none
 | k + 1, x3, x6, x7, x8 => if x8 < x7 then (if 0 ≤ x8 then (if x8 < (x6.length : Int) then (bus_Check.l0 k (Go.bits .xor .u8 x3 (rd x6 x8)) x6 x7 (wrap64 (x8 + 1))) else (none)) else (none)) else (some x3)
def bus_Check.f (k : Nat) (l0 : List Int) : Option (Int) := bus_Check.l0 k 90 l0 (l0.length : Int) 0
theorem bus_Check.mono_l : ∀ k, (∀ y0 y1 y2 y3, LeO (bus_Check.l0 k y0 y1 y2 y3) (bus_Check.l0 (k + 1) y0 y1 y2 y3))
 | 0 => fun _ _ _ _ r h => by simp [bus_Check.l0] at h
 | k + 1 => by
  have ih0 := bus_Check.mono_l k
  ·intro y0 y1 y2 y3
   unfold bus_Check.l0
   repeat' first
   | (with_reducible exact ih0 _ _ _ _)
   | (with_reducible exact LeO.refl _)
   | (with_reducible exact LeO.none _)
   | (with_reducible refine LeO.ite ?_ ?_)
   | (with_reducible refine LeO.bind ?_ (fun _ => ?_))
   | exact ih0 _ _ _ _
   | exact LeO.none _
   | refine LeO.ite ?_ ?_
   | refine LeO.bind ?_ (fun _ => ?_)
theorem bus_Check.mono : ∀ a0 k, LeO (bus_Check.f k a0) (bus_Check.f (k + 1) a0) := by
 intro a0 k
 have ih0 := bus_Check.mono_l k
 unfold bus_Check.f
 repeat' first
   | (with_reducible exact ih0 _ _ _ _)
   | (with_reducible exact LeO.refl _)
   | (with_reducible exact LeO.none _)
   | (with_reducible refine LeO.ite ?_ ?_)
   | (with_reducible refine LeO.bind ?_ (fun _ => ?_))
   | exact ih0 _ _ _ _
   | exact LeO.none _
   | refine LeO.ite ?_ ?_
   | refine LeO.bind ?_ (fun _ => ?_)
set_option maxHeartbeats 8000000 in
set_option maxRecDepth 100000 in
theorem bus_Check.calls (k : Nat) (A0 : Option Addr) (c0 : Nat) (l0 : List Int) (r : Int) (w : World) (hr0 : Kd.C (Kd.int .u8) w A0 l0.length l0) (hc0 : l0.length ≤ c0) (h : bus_Check.f k l0 = some r) :
  Calls Try.prog 68 #[.slice A0 l0.length c0] w fun e w' => e = .returned (.int .u8 r) ∧ Drawn0 w w' := by
 have HR0 := Aside0.mk hr0
 have HC0 := Aside0.mk hc0
 clear hr0 hc0
 have H : (bus_Check.l0 k 90 l0 (l0.length : Int) 0) = some r := h
 clear h
 have H' := Aside0.mk H
 clear H
 go_enter Try.func68, Try.ntmps68
 go_wp2
 refine Cu.wp_loop (Cu.rep 3 Cu.f (Cu.rep 1 Cu.t (Cu.rep 1 Cu.f (Cu.rep 1 Cu.t (Cu.rep 2 Cu.f (Cu.rep 8 Cu.t (Cu.rep 1 Cu.f []))))))) 10 (fun kq us_ w' => ∃ (x3_1 : Int) (x8_1 : Int), (Cu.nth us_ 0) = .int .u8 x3_1 ∧ (Cu.nth us_ 2) = .int .i64 x8_1 ∧ Aside0 (bus_Check.l0 kq x3_1 l0 (l0.length : Int) x8_1 = some r) ∧ Aside0 (kq ≤ k) ∧ Drawn0 w w') k ?_ (by kernel_rfl) (by kernel_rfl) ?_
 · try dsimp only [Cu.pick, Cu.rep, Cu.nth]
   exact ⟨(90), (0), Sq.e, Sq.e, H', ⟨Nat.le_refl _⟩, by repeat (first | exact Drawn0.refl _ | apply Drawn0.step)⟩
 ·
  intro gk wr u3 u5 u8 u9 u10 u11 u12 u13 u14 u15
  try dsimp only [Cu.over, Cu.rep, Cu.nth]
  intro hrel _ _ _ _
  clear H'
  obtain ⟨x3_1, x8_1, rfl, rfl, HA, HK1, ⟨m1, rfl⟩⟩ := hrel
  cases gk with
  | zero => exact absurd HA.out (by simp [bus_Check.l0])
  | succ k1 =>
   have H := HA.out
   clear HA
   simp only [bus_Check.l0] at H
   by_cases c2 : x8_1 < (l0.length : Int)
   ·rw [if_pos c2] at H
    have c2b0 : decide (x8_1 < (l0.length : Int)) = true := decide_eq_true c2
    clear c2
    by_cases c3 : 0 ≤ x8_1
    ·rw [if_pos c3] at H
     have c3b0 : decide (0 ≤ x8_1) = true := decide_eq_true c3
     clear c3
     by_cases c4 : x8_1 < (l0.length : Int)
     ·rw [if_pos c4] at H
      have c4b0 : decide (x8_1 < (l0.length : Int)) = true := decide_eq_true c4
      clear c4
      have H' := Aside0.mk H
      clear H
      have p106 : 0 ≤ (x8_1 : Int) := of_decide_eq_true (by first | (with_reducible assumption) | assumption)
      have q106 : x8_1 < (l0.length : Int) := of_decide_eq_true (by first | (with_reducible assumption) | assumption)
      obtain ⟨ad106, e106, hx106_0⟩ := Kd.at_int HR0.out x8_1 p106 q106
      cases e106
      replace p106 := eq_true p106
      replace q106 := eq_true q106
      go_wp2
      refine Cu.handed k1 (by have := HK1.out; omega) (by assumption) ?_ (by kernel_rfl) (by kernel_rfl)
      try dsimp only [Cu.pick, Cu.rep, Cu.nth]
      exact ⟨(Go.bits .xor .u8 x3_1 (rd l0 x8_1)), (wrap64 (x8_1 + 1)), Sq.e, Sq.e, H', ⟨by have := HK1.out; omega⟩, by repeat (first | exact Drawn0.refl _ | apply Drawn0.step)⟩
     ·rw [if_neg c4] at H
      exact absurd H (by simp)
    ·rw [if_neg c3] at H
     exact absurd H (by simp)
   ·rw [if_neg c2] at H
    have c2b0 : decide (x8_1 < (l0.length : Int)) = false := decide_eq_false c2
    clear c2
    obtain rfl := Option.some.inj H
    go_wp2
    go_ret
    exact ⟨by first | rfl | (simp; done) | (simp [*]; done), by repeat (first | exact Drawn0.refl _ | apply Drawn0.step)⟩

/-! ### drv_number: function 69 -/
def drv_number.f (l0 : List Int) : Option (Int) := if 0 < (l0.length : Int) then (if 1 < (l0.length : Int) then (some (wrap64 (IntKind.i16.wrap (Go.bits .or .u16 (IntKind.u16.wrap ((IntKind.u16.wrap (rd l0 0)) * 256)) (IntKind.u16.wrap (rd l0 1)))))) else (none)) else (none)
set_option maxHeartbeats 8000000 in
set_option maxRecDepth 100000 in
theorem drv_number.calls (A0 : Option Addr) (c0 : Nat) (l0 : List Int) (r : Int) (w : World) (hr0 : Kd.C (Kd.int .u8) w A0 l0.length l0) (hc0 : l0.length ≤ c0) (h : drv_number.f l0 = some r) :
  Calls Try.prog 69 #[.slice A0 l0.length c0] w fun e w' => e = .returned (.int .i64 r) ∧ Drawn0 w w' := by
 have HR0 := Aside0.mk hr0
 have HC0 := Aside0.mk hc0
 clear hr0 hc0
 have H : (if 0 < (l0.length : Int) then (if 1 < (l0.length : Int) then (some (wrap64 (IntKind.i16.wrap (Go.bits .or .u16 (IntKind.u16.wrap ((IntKind.u16.wrap (rd l0 0)) * 256)) (IntKind.u16.wrap (rd l0 1)))))) else (none)) else (none)) = some r := h
 clear h
 by_cases c2 : 0 < (l0.length : Int)
 ·rw [if_pos c2] at H
  have c2b0 : decide (0 < (l0.length : Int)) = true := decide_eq_true c2
  have c2b1 : decide (0 < l0.length) = true := decide_eq_true (by omega)
  clear c2
  by_cases c3 : 1 < (l0.length : Int)
  ·rw [if_pos c3] at H
   have c3b0 : decide (1 < (l0.length : Int)) = true := decide_eq_true c3
   have c3b1 : decide (1 < l0.length) = true := decide_eq_true (by omega)
   clear c3
   obtain rfl := Option.some.inj H
   have p107 : 0 ≤ (0 : Int) := (by omega)
   have q107 : 0 < (l0.length : Int) := of_decide_eq_true (by first | (with_reducible assumption) | assumption)
   obtain ⟨ad107, e107, hx107_0⟩ := Kd.at_int HR0.out 0 p107 q107
   cases e107
   have qi107 : (0 < l0.length) = True := eq_true (by omega)
   (try rw [show ((0 : Int)).toNat = 0 from rfl] at hx107_0)
   (try rw [Addr.add_zero'] at hx107_0)
   replace p107 := eq_true p107
   replace q107 := eq_true q107
   have p108 : 0 ≤ (1 : Int) := (by omega)
   have q108 : 1 < (l0.length : Int) := of_decide_eq_true (by first | (with_reducible assumption) | assumption)
   obtain ⟨ad108, e108, hx108_0⟩ := Kd.at_int HR0.out 1 p108 q108
   obtain rfl : ad107 = ad108 := (by injection e108)
   (try simp only [show (1 : Int).toNat = 1 from rfl, Nat.reduceMul, Nat.reduceEqDiff, Go.Addr.add, ↓reduceIte] at hx108_0)
   have qi108 : (1 < l0.length) = True := eq_true (by omega)
   (try rw [show ((1 : Int)).toNat = 1 from rfl] at hx108_0)
   replace p108 := eq_true p108
   replace q108 := eq_true q108
   go_enter Try.func69, Try.ntmps69
   go_wp2
   repeat (go_quiet (fail); try go_wp2)
   go_ret
   exact ⟨by first | rfl | (simp; done) | (simp [*]; done), by repeat (first | exact Drawn0.refl _ | apply Drawn0.step)⟩
  ·rw [if_neg c3] at H
   exact absurd H (by simp)
 ·rw [if_neg c2] at H
  exact absurd H (by simp)

/-! ### drv_samples: function 57 -/
def drv_samples.l0 : Nat → List Int → List (S55) → Int → Int → Bool → Int → Int → Int → Bool → Int → Int → Option (Int × Int × Bool × Int × Int × Int × Bool × Int × Int × (List (S55)))
 | 0, _, _, _, _, _, _, _, _, _, _, _ => none
 | k + 1, x1, x6, x110000, x110001, x110002, x110003, x110004, x110005, x110006, x110007, x110008 => if (x1.length : Int) > 0 then (if 7 ≤ (x1.length : Int) then ((bus_Check.f k (x1.take 7)).bind fun t116 => (if 7 < (x1.length : Int) then (if t116 = (rd x1 7) then ((drv_number.f x1).bind fun t118 => (if 2 ≤ (x1.length : Int) then ((drv_number.f (x1.drop 2)).bind fun t124 => (if 4 ≤ (x1.length : Int) then ((drv_number.f (x1.drop 4)).bind fun t130 => (if 6 < (x1.length : Int) then (if x6.length < 4398046511104 then (if 8 ≤ (x1.length : Int) then (drv_samples.l0 k (x1.drop 8) (x6 ++ [(⟨t118, t124, t130, wrap64 (IntKind.i8.wrap (rd x1 6))⟩ : S55)]) x110000 x110001 x110002 x110003 x110004 x110005 x110006 x110007 x110008) else (none)) else (none)) else (none))) else (none))) else (none))) else (if 8 ≤ (x1.length : Int) then (drv_samples.l0 k (x1.drop 8) x6 x110000 x110001 x110002 x110003 x110004 x110005 x110006 x110007 (mn (wrap64 (x110008 + 1)) 1099511627776)) else (none))) else (none))) else (none)) else (some (x110000, x110001, x110002, x110003, 4, x110005, x110006, 0, x110008, x6))
def drv_samples.f (k : Nat) (a0_0 : Int) (a0_1 : Int) (a0_2 : Bool) (a0_3 : Int) (a0_4 : Int) (a0_5 : Int) (a0_6 : Bool) (a0_7 : Int) (a0_8 : Int) (l1 : List Int) : Option (Int × Int × Bool × Int × Int × Int × Bool × Int × Int × (List (S55))) := drv_samples.l0 k l1 ([] : List (S55)) a0_0 a0_1 a0_2 a0_3 a0_4 a0_5 a0_6 a0_7 a0_8
theorem drv_samples.mono_l : ∀ k, (∀ y0 y1 y2 y3 y4 y5 y6 y7 y8 y9 y10, LeO (drv_samples.l0 k y0 y1 y2 y3 y4 y5 y6 y7 y8 y9 y10) (drv_samples.l0 (k + 1) y0 y1 y2 y3 y4 y5 y6 y7 y8 y9 y10))
 | 0 => fun _ _ _ _ _ _ _ _ _ _ _ r h => by simp [drv_samples.l0] at h
 | k + 1 => by
  have ih0 := drv_samples.mono_l k
  ·intro y0 y1 y2 y3 y4 y5 y6 y7 y8 y9 y10
   unfold drv_samples.l0
   repeat' first
   | (with_reducible exact ih0 _ _ _ _ _ _ _ _ _ _ _)
   | (with_reducible exact bus_Check.mono _ _)
   | (with_reducible exact LeO.refl _)
   | (with_reducible exact LeO.none _)
   | (with_reducible refine LeO.ite ?_ ?_)
   | (with_reducible refine LeO.bind ?_ (fun _ => ?_))
   | exact ih0 _ _ _ _ _ _ _ _ _ _ _
   | exact bus_Check.mono _ _
   | exact LeO.none _
   | refine LeO.ite ?_ ?_
   | refine LeO.bind ?_ (fun _ => ?_)
theorem drv_samples.mono : ∀ a0 a1 a2 a3 a4 a5 a6 a7 a8 a9 k, LeO (drv_samples.f k a0 a1 a2 a3 a4 a5 a6 a7 a8 a9) (drv_samples.f (k + 1) a0 a1 a2 a3 a4 a5 a6 a7 a8 a9) := by
 intro a0 a1 a2 a3 a4 a5 a6 a7 a8 a9 k
 have ih0 := drv_samples.mono_l k
 unfold drv_samples.f
 repeat' first
   | (with_reducible exact ih0 _ _ _ _ _ _ _ _ _ _ _)
   | (with_reducible exact bus_Check.mono _ _)
   | (with_reducible exact LeO.refl _)
   | (with_reducible exact LeO.none _)
   | (with_reducible refine LeO.ite ?_ ?_)
   | (with_reducible refine LeO.bind ?_ (fun _ => ?_))
   | exact ih0 _ _ _ _ _ _ _ _ _ _ _
   | exact bus_Check.mono _ _
   | exact LeO.none _
   | refine LeO.ite ?_ ?_
   | refine LeO.bind ?_ (fun _ => ?_)
def drv_samples.T6 : Bool × List (List Nat × List Nat) := (true, [([], []), ([], []), ([1], [1]), ([], []), ([3], [3]), ([4, 2], [4]), ([], []), ([6], [6]), ([7, 5], [7]), ([], []), ([9], [9]), ([10], [10]), ([11], [11]), ([12], [12]), ([2, 5, 8, 13], [2, 5, 8, 13]), ([14], [14]), ([0, 15, 8], [0, 15]), ([16, 16, 0, 1, 2, 3, 4, 5, 6, 7, 8, 9, 10, 11, 12, 13, 14, 15, 16], [0, 16])])
def drv_samples.B6 : List Nat := [0, 0, 2, 0, 8, 30, 0, 64, 254, 0, 512, 1536, 3584, 7680, 16382, 32766, 65535, 131071]
theorem drv_samples.tab6 : rtab .any (opsOf Try.f57 6) = drv_samples.T6 := by kernel_rfl
theorem drv_samples.bits6 : waitsOk drv_samples.T6.2 drv_samples.B6 = true := by kernel_rfl
set_option maxHeartbeats 8000000 in
set_option maxRecDepth 100000 in
theorem drv_samples.calls (k : Nat) (a0_0 : Int) (a0_1 : Int) (a0_2 : Bool) (a0_3 : Int) (a0_4 : Int) (a0_5 : Int) (a0_6 : Bool) (a0_7 : Int) (a0_8 : Int) (P1_ : Nat → Prop) (A1 : Option Addr) (c1 : Nat) (l1 : List Int) (r1 : Int) (r2 : Int) (r3 : Bool) (r4 : Int) (r5 : Int) (r6 : Int) (r7 : Bool) (r8 : Int) (r9 : Int) (r10 : List (S55)) (w : World) (hs1 : Kd.V (Kd.int .u8) 5 w w.heap.size (fun k_ => P1_ k_) (.slice A1 l1.length c1) l1) (h : drv_samples.f k a0_0 a0_1 a0_2 a0_3 a0_4 a0_5 a0_6 a0_7 a0_8 l1 = some (r1, r2, r3, r4, r5, r6, r7, r8, r9, r10)) :
  Calls Try.prog 57 #[.agg #[.int .i64 a0_0, .int .i64 a0_1, .bool a0_2, .int .i64 a0_3, .int .i64 a0_4, .int .i64 a0_5, .bool a0_6, .int .i64 a0_7, .int .i64 a0_8], .slice A1 l1.length c1] w fun e w' => ∃ v9_ : Value, e = .returned (.tuple #[.agg #[.int .i64 r1, .int .i64 r2, .bool r3, .int .i64 r4, .int .i64 r5, .int .i64 r6, .bool r7, .int .i64 r8, .int .i64 r9], v9_]) ∧ Kd.R k55 55 w' w.heap.size (fun k_ => (w.heap.size ≤ k_)) v9_ r10 ∧ Below w.heap.size w w' := by
 have hu24 := Try.underlying24
 have hu55 := Try.underlying55
 have HO1 := Aside0.mk (show Kd.V (Kd.int .u8) 5 w w.heap.size (fun k_ => (P1_ k_ ∨ w.heap.size ≤ k_)) (.slice A1 l1.length c1) l1 from Kd.V_mono hs1 (fun k_ hk => .inl hk))
 have HB := Aside0.mk (Below.refl w.heap.size w)
 have H : (drv_samples.l0 k l1 ([] : List (S55)) a0_0 a0_1 a0_2 a0_3 a0_4 a0_5 a0_6 a0_7 a0_8) = some (r1, r2, r3, r4, r5, r6, r7, r8, r9, r10) := h
 clear h
 have H' := Aside0.mk H
 clear H
 go_enter Try.func57, Try.ntmps57
 go_wp2_with (first | ((with_reducible refine gate_dst (N := 2) rfl ?_); refine box_event ?hg (N := 2) ?hd (cs := #[.int .i64 a0_0, .int .i64 a0_1, .bool a0_2, .int .i64 a0_3, .int .i64 a0_4, .int .i64 a0_5, .bool a0_6, .int .i64 a0_7, .int .i64 a0_8]) (t := 24) ?hr ?_; (case hd => rfl); (case hg => rfl); (case hr => first | (go_simp; done) | (go_simp; rfl)); intro gb109 hg w3 hbox hb; have BK109 := Aside0.mk hbox; have GW109 := Sq.ge hg HB; have GE109 := Sq.ge hg HB; replace HO1 := Aside0.mk (Kd.V_below (Kd.V_elderB (Sq.rV HO1.out) gb109 (Nat.le_of_eq hg.symm)) hb); replace HB := Sq.sw HB hb; clear hb hbox hg) | ((with_reducible refine gate_dst (N := 4) rfl ?_); refine box_event ?hg (N := 4) ?hd (cs := #[.int .i64 0, .int .i64 0, .bool false, .int .i64 0, .int .i64 0, .int .i64 0, .bool false, .int .i64 0, .int .i64 0]) (t := 24) ?hr ?_; (case hd => rfl); (case hg => rfl); (case hr => first | (go_simp; done) | (go_simp; rfl)); intro gb110 hg w4 hbox hb; have BK110 := Aside0.mk hbox; have GW110 := Sq.ge hg HB; have GE110 := Sq.ge hg HB; obtain ⟨NB109_110, NB110_109⟩ := Sq.np hg BK109; replace HO1 := Aside0.mk (Kd.V_below (Kd.V_elderB (Sq.rV HO1.out) gb110 (Nat.le_of_eq hg.symm)) hb); replace BK109 := Sq.sb BK109 hb; replace HB := Sq.sw HB hb; clear hb hbox hg))
 refine Cu.wp_loop (Cu.rep 1 Cu.f (Cu.rep 1 Cu.t (Cu.rep 4 Cu.f (Cu.rep 35 Cu.t (Cu.rep 4 Cu.f []))))) 36 (fun kq us_ w' => ∃ (x1_1 : List Int) (x6_1 : List (S55)) (x110008_1 : Int), Aside0 (drv_samples.l0 kq x1_1 x6_1 a0_0 a0_1 a0_2 a0_3 a0_4 a0_5 a0_6 a0_7 x110008_1 = some (r1, r2, r3, r4, r5, r6, r7, r8, r9, r10)) ∧ Aside0 (kq ≤ k) ∧ Aside0 (Kd.V (Kd.int .u8) 5 w' w.heap.size (fun k_ => (P1_ k_ ∨ w.heap.size ≤ k_) ∧ some k_ ≠ ((Cu.nth us_ 1) : Value).ownBlock ∧ k_ ≠ gb109 ∧ k_ ≠ gb110) (Cu.nth us_ 0) x1_1) ∧ Aside0 (Kd.R k55 55 w' w.heap.size (fun k_ => (w.heap.size ≤ k_)) (Cu.nth us_ 1) x6_1) ∧ Aside0 (w'.heap[gb109]? = some (.cells #[.int .i64 a0_0, .int .i64 a0_1, .bool a0_2, .int .i64 a0_3, .int .i64 a0_4, .int .i64 a0_5, .bool a0_6, .int .i64 a0_7, .int .i64 x110008_1] 24 (0, 0))) ∧ Aside0 (w'.heap[gb110]? = some (.cells #[.int .i64 0, .int .i64 0, .bool false, .int .i64 0, .int .i64 0, .int .i64 0, .bool false, .int .i64 0, .int .i64 0] 24 (0, 0))) ∧ Aside0 (Below w.heap.size w w')) k ?_ (by kernel_rfl) (by kernel_rfl) ?_
 · try dsimp only [Cu.pick, Cu.rep, Cu.nth]
   exact ⟨(l1), (([] : List (S55))), (a0_8), H', ⟨Nat.le_refl _⟩, ⟨Sq.rV (Kd.V_mono HO1.out (fun _ hk => ⟨hk.1.1, ⟨(by simp [Value.ownBlock]), ⟨hk.1.2, hk.2⟩⟩⟩))⟩, ⟨by first | exact Kd.R_nil _ _ _ _ _ | exact Kd.N_nil _ _ _ _ _ | exact Kd.V_nil _ _ _ _ _ | exact Kd.Q_nil _ _ _ _ _ | exact Kd.S_nil _ _ _ _ _⟩, ⟨Sq.b BK109.out⟩, ⟨Sq.b BK110.out⟩, ⟨Sq.w HB.out⟩⟩
 ·
  intro gk wr u1 u6 u7 u8 u9 u10 u11 u12 u13 u14 u15 u16 u17 u18 u19 u20 u21 u22 u23 u24 u25 u26 u27 u28 u29 u30 u31 u32 u33 u34 u35 u36 u37 u38 u39 u40
  try dsimp only [Cu.over, Cu.rep, Cu.nth]
  intro hrel _ _ _ _
  clear H'; (try clear c1); (try clear p2)
  obtain ⟨x1_1, x6_1, x110008_1, HA, HK1, HO_1, HO_6, BK109, BK110, HB⟩ := hrel
  cases gk with
  | zero => exact absurd HA.out (by simp [drv_samples.l0])
  | succ k1 =>
   have H := HA.out
   clear HA
   simp only [drv_samples.l0] at H
   by_cases c5 : (x1_1.length : Int) > 0
   ·rw [if_pos c5] at H
    have c5b0 : decide (0 < (x1_1.length : Int)) = true := decide_eq_true c5
    have c5b1 : decide (0 < x1_1.length) = true := decide_eq_true (by omega)
    clear c5
    by_cases c6 : 7 ≤ (x1_1.length : Int)
    ·rw [if_pos c6] at H
     have c6b0 := eq_true c6
     have c6b1 : decide (7 ≤ (x1_1.length : Int)) = true := decide_eq_true c6
     clear c6
     obtain ⟨y111, hy111⟩ : ∃ y_ : List Int, y_ = (x1_1.take 7) := ⟨_, rfl⟩
     replace H : ((bus_Check.f k1 y111).bind fun t116 => (if 7 < (x1_1.length : Int) then (if t116 = (rd x1_1 7) then ((drv_number.f x1_1).bind fun t118 => (if 2 ≤ (x1_1.length : Int) then ((drv_number.f (x1_1.drop 2)).bind fun t124 => (if 4 ≤ (x1_1.length : Int) then ((drv_number.f (x1_1.drop 4)).bind fun t130 => (if 6 < (x1_1.length : Int) then (if x6_1.length < 4398046511104 then (if 8 ≤ (x1_1.length : Int) then (drv_samples.l0 k1 (x1_1.drop 8) (x6_1 ++ [(⟨t118, t124, t130, wrap64 (IntKind.i8.wrap (rd x1_1 6))⟩ : S55)]) a0_0 a0_1 a0_2 a0_3 a0_4 a0_5 a0_6 a0_7 x110008_1) else (none)) else (none)) else (none))) else (none))) else (none))) else (if 8 ≤ (x1_1.length : Int) then (drv_samples.l0 k1 (x1_1.drop 8) x6_1 a0_0 a0_1 a0_2 a0_3 a0_4 a0_5 a0_6 a0_7 (mn (wrap64 (x110008_1 + 1)) 1099511627776)) else (none))) else (none))) = some (r1, r2, r3, r4, r5, r6, r7, r8, r9, r10) := by first | (rw [hy111]; with_reducible exact H) | (have H2_ := (Option.bind_some _ _).symm.trans H; rw [hy111]; with_reducible exact H2_) | (have H2_ := (Option.bind_some _ _).symm.trans H; with_reducible exact H2_) | with_reducible exact H | (rw [hy111]; exact H) | exact H
     have Ny111 := Aside0.mk hy111
     clear hy111
     replace H := Option.bind_eq_some_iff.mp H
     obtain ⟨t116, A70, H⟩ := H
     replace H : (if 7 < (x1_1.length : Int) then (if t116 = (rd x1_1 7) then ((drv_number.f x1_1).bind fun t118 => (if 2 ≤ (x1_1.length : Int) then ((drv_number.f (x1_1.drop 2)).bind fun t124 => (if 4 ≤ (x1_1.length : Int) then ((drv_number.f (x1_1.drop 4)).bind fun t130 => (if 6 < (x1_1.length : Int) then (if x6_1.length < 4398046511104 then (if 8 ≤ (x1_1.length : Int) then (drv_samples.l0 k1 (x1_1.drop 8) (x6_1 ++ [(⟨t118, t124, t130, wrap64 (IntKind.i8.wrap (rd x1_1 6))⟩ : S55)]) a0_0 a0_1 a0_2 a0_3 a0_4 a0_5 a0_6 a0_7 x110008_1) else (none)) else (none)) else (none))) else (none))) else (none))) else (if 8 ≤ (x1_1.length : Int) then (drv_samples.l0 k1 (x1_1.drop 8) x6_1 a0_0 a0_1 a0_2 a0_3 a0_4 a0_5 a0_6 a0_7 (mn (wrap64 (x110008_1 + 1)) 1099511627776)) else (none))) else (none)) = some (r1, r2, r3, r4, r5, r6, r7, r8, r9, r10) := H
     have A7 := Aside0.mk A70
     clear A70
     by_cases c8 : 7 < (x1_1.length : Int)
     ·rw [if_pos c8] at H
      have c8b0 : decide (7 < (x1_1.length : Int)) = true := decide_eq_true c8
      have c8b1 : decide (7 < x1_1.length) = true := decide_eq_true (by omega)
      clear c8
      by_cases c9 : t116 = (rd x1_1 7)
      ·rw [if_pos c9] at H
       have c9b0 : (t116 == (rd x1_1 7)) = true := beq_iff_eq.mpr c9
       have c9b1 : (t116 != (rd x1_1 7)) = false := bne_eq_false_iff_eq.mpr c9
       clear c9
       replace H := Option.bind_eq_some_iff.mp H
       obtain ⟨t118, A100, H⟩ := H
       replace H : (if 2 ≤ (x1_1.length : Int) then ((drv_number.f (x1_1.drop 2)).bind fun t124 => (if 4 ≤ (x1_1.length : Int) then ((drv_number.f (x1_1.drop 4)).bind fun t130 => (if 6 < (x1_1.length : Int) then (if x6_1.length < 4398046511104 then (if 8 ≤ (x1_1.length : Int) then (drv_samples.l0 k1 (x1_1.drop 8) (x6_1 ++ [(⟨t118, t124, t130, wrap64 (IntKind.i8.wrap (rd x1_1 6))⟩ : S55)]) a0_0 a0_1 a0_2 a0_3 a0_4 a0_5 a0_6 a0_7 x110008_1) else (none)) else (none)) else (none))) else (none))) else (none)) = some (r1, r2, r3, r4, r5, r6, r7, r8, r9, r10) := H
       have A10 := Aside0.mk A100
       clear A100
       by_cases c11 : 2 ≤ (x1_1.length : Int)
       ·rw [if_pos c11] at H
        have c11b0 := eq_true c11
        have c11b1 : decide (2 ≤ (x1_1.length : Int)) = true := decide_eq_true c11
        clear c11
        obtain ⟨y119, hy119⟩ : ∃ y_ : List Int, y_ = (x1_1.drop 2) := ⟨_, rfl⟩
        replace H : ((drv_number.f y119).bind fun t124 => (if 4 ≤ (x1_1.length : Int) then ((drv_number.f (x1_1.drop 4)).bind fun t130 => (if 6 < (x1_1.length : Int) then (if x6_1.length < 4398046511104 then (if 8 ≤ (x1_1.length : Int) then (drv_samples.l0 k1 (x1_1.drop 8) (x6_1 ++ [(⟨t118, t124, t130, wrap64 (IntKind.i8.wrap (rd x1_1 6))⟩ : S55)]) a0_0 a0_1 a0_2 a0_3 a0_4 a0_5 a0_6 a0_7 x110008_1) else (none)) else (none)) else (none))) else (none))) = some (r1, r2, r3, r4, r5, r6, r7, r8, r9, r10) := by first | (rw [hy119]; with_reducible exact H) | (have H2_ := (Option.bind_some _ _).symm.trans H; rw [hy119]; with_reducible exact H2_) | (have H2_ := (Option.bind_some _ _).symm.trans H; with_reducible exact H2_) | with_reducible exact H | (rw [hy119]; exact H) | exact H
        have Ny119 := Aside0.mk hy119
        clear hy119
        replace H := Option.bind_eq_some_iff.mp H
        obtain ⟨t124, A120, H⟩ := H
        replace H : (if 4 ≤ (x1_1.length : Int) then ((drv_number.f (x1_1.drop 4)).bind fun t130 => (if 6 < (x1_1.length : Int) then (if x6_1.length < 4398046511104 then (if 8 ≤ (x1_1.length : Int) then (drv_samples.l0 k1 (x1_1.drop 8) (x6_1 ++ [(⟨t118, t124, t130, wrap64 (IntKind.i8.wrap (rd x1_1 6))⟩ : S55)]) a0_0 a0_1 a0_2 a0_3 a0_4 a0_5 a0_6 a0_7 x110008_1) else (none)) else (none)) else (none))) else (none)) = some (r1, r2, r3, r4, r5, r6, r7, r8, r9, r10) := H
        have A12 := Aside0.mk A120
        clear A120
        by_cases c13 : 4 ≤ (x1_1.length : Int)
        ·rw [if_pos c13] at H
         have c13b0 := eq_true c13
         have c13b1 : decide (4 ≤ (x1_1.length : Int)) = true := decide_eq_true c13
         clear c13
         obtain ⟨y125, hy125⟩ : ∃ y_ : List Int, y_ = (x1_1.drop 4) := ⟨_, rfl⟩
         replace H : ((drv_number.f y125).bind fun t130 => (if 6 < (x1_1.length : Int) then (if x6_1.length < 4398046511104 then (if 8 ≤ (x1_1.length : Int) then (drv_samples.l0 k1 (x1_1.drop 8) (x6_1 ++ [(⟨t118, t124, t130, wrap64 (IntKind.i8.wrap (rd x1_1 6))⟩ : S55)]) a0_0 a0_1 a0_2 a0_3 a0_4 a0_5 a0_6 a0_7 x110008_1) else (none)) else (none)) else (none))) = some (r1, r2, r3, r4, r5, r6, r7, r8, r9, r10) := by first | (rw [hy125]; with_reducible exact H) | (have H2_ := (Option.bind_some _ _).symm.trans H; rw [hy125]; with_reducible exact H2_) | (have H2_ := (Option.bind_some _ _).symm.trans H; with_reducible exact H2_) | with_reducible exact H | (rw [hy125]; exact H) | exact H
         have Ny125 := Aside0.mk hy125
         clear hy125
         replace H := Option.bind_eq_some_iff.mp H
         obtain ⟨t130, A140, H⟩ := H
         replace H : (if 6 < (x1_1.length : Int) then (if x6_1.length < 4398046511104 then (if 8 ≤ (x1_1.length : Int) then (drv_samples.l0 k1 (x1_1.drop 8) (x6_1 ++ [(⟨t118, t124, t130, wrap64 (IntKind.i8.wrap (rd x1_1 6))⟩ : S55)]) a0_0 a0_1 a0_2 a0_3 a0_4 a0_5 a0_6 a0_7 x110008_1) else (none)) else (none)) else (none)) = some (r1, r2, r3, r4, r5, r6, r7, r8, r9, r10) := H
         have A14 := Aside0.mk A140
         clear A140
         by_cases c15 : 6 < (x1_1.length : Int)
         ·rw [if_pos c15] at H
          have c15b0 : decide (6 < (x1_1.length : Int)) = true := decide_eq_true c15
          have c15b1 : decide (6 < x1_1.length) = true := decide_eq_true (by omega)
          clear c15
          by_cases c16 : x6_1.length < 4398046511104
          ·rw [if_pos c16] at H
           have LMc16 := Aside0.mk c16
           clear c16
           obtain ⟨y132, hy132⟩ : ∃ y_ : List (S55), y_ = (x6_1 ++ [(⟨t118, t124, t130, wrap64 (IntKind.i8.wrap (rd x1_1 6))⟩ : S55)]) := ⟨_, rfl⟩
           replace H : (if 8 ≤ (x1_1.length : Int) then (drv_samples.l0 k1 (x1_1.drop 8) y132 a0_0 a0_1 a0_2 a0_3 a0_4 a0_5 a0_6 a0_7 x110008_1) else (none)) = some (r1, r2, r3, r4, r5, r6, r7, r8, r9, r10) := by first | (rw [hy132]; with_reducible exact H) | (have H2_ := (Option.bind_some _ _).symm.trans H; rw [hy132]; with_reducible exact H2_) | (have H2_ := (Option.bind_some _ _).symm.trans H; with_reducible exact H2_) | with_reducible exact H | (rw [hy132]; exact H) | exact H
           have Ny132 := Aside0.mk hy132
           clear hy132
           by_cases c17 : 8 ≤ (x1_1.length : Int)
           ·rw [if_pos c17] at H
            have c17b0 := eq_true c17
            have c17b1 : decide (8 ≤ (x1_1.length : Int)) = true := decide_eq_true c17
            clear c17
            obtain ⟨y135, hy135⟩ : ∃ y_ : List Int, y_ = (x1_1.drop 8) := ⟨_, rfl⟩
            replace H : (drv_samples.l0 k1 y135 y132 a0_0 a0_1 a0_2 a0_3 a0_4 a0_5 a0_6 a0_7 x110008_1) = some (r1, r2, r3, r4, r5, r6, r7, r8, r9, r10) := by first | (rw [hy135]; with_reducible exact H) | (have H2_ := (Option.bind_some _ _).symm.trans H; rw [hy135]; with_reducible exact H2_) | (have H2_ := (Option.bind_some _ _).symm.trans H; with_reducible exact H2_) | with_reducible exact H | (rw [hy135]; exact H) | exact H
            have Ny135 := Aside0.mk hy135
            clear hy135
            have H' := Aside0.mk H
            clear H
            obtain ⟨Ao18, co18, eo18⟩ := Kd.V_slice HO_1.out
            subst eo18
            try go_wp2
            replace HO_1 := Aside0.mk (Kd.V_drew HO_1.out); replace HO_6 := Aside0.mk (Kd.R_drew HO_6.out); replace BK109 := Aside0.mk (blk_drew BK109.out); replace BK110 := Aside0.mk (blk_drew BK110.out); replace HB := Aside0.mk (below_drew1 HB.out)
            have q20 : (7 : Int) ≤ ((x1_1.length : Int) : Int) := of_decide_eq_true (by first | (with_reducible assumption) | assumption)
            obtain ⟨i020, hi020, _, hsz20, _⟩ := info_parts info5
            have hroom20 : x1_1.length ≤ co18 := (Kd.V_reads' HO_1.out).2.1
            have hC20 : Kd.F (Kd.int .u8) _ _ Ao18 x1_1.length x1_1 := (Kd.V_at (base := w.heap.size) HO_1.out).2.2
            have hcut20 := cut_to (P := Try.prog) 25 5 .i64 Try.underlying25 hi020 Ao18 x1_1.length co18 7 (by omega) q20 hroom20
            have hr20 := Kd.F_take (m := 7) hC20 (by omega)
            have hy20 : y111.length = (7 : Int).toNat := (by rw [Ny111.out, List.length_take]; omega)
            rw [← Ny111.out] at hr20
            rw [← hy20] at hcut20
            have HO115 := Aside0.mk (show Kd.V (Kd.int .u8) 5 _ w.heap.size _ (.slice Ao18 y111.length co18) y111 from Kd.V_mk (by omega) hr20)
            have HC115 := Aside0.mk (show y111.length ≤ co18 from by omega)
            clear hr20 hC20 hroom20 hi020 hsz20
            have KY20 := Aside0.mk hy20
            clear hy20
            replace q20 := eq_true q20
            have p117 : 0 ≤ (7 : Int) := (by omega)
            have q117 : 7 < (x1_1.length : Int) := of_decide_eq_true (by first | (with_reducible assumption) | assumption)
            obtain ⟨ad117, e117, hx117_0⟩ := Kd.at_int (Kd.V_reads' HO_1.out).2.2 7 p117 q117
            cases e117
            (try simp only [show (7 : Int).toNat = 7 from rfl, Nat.reduceMul, Nat.reduceEqDiff, Go.Addr.add, ↓reduceIte] at hx117_0)
            have qi117 : (7 < x1_1.length) = True := eq_true (by omega)
            (try rw [show ((7 : Int)).toNat = 7 from rfl] at hx117_0)
            replace p117 := eq_true p117
            replace q117 := eq_true q117
            refine start_ (n := 7) (S := fun w' => w'.cell? ⟨ad117.block, ad117.off + 7, none⟩ = some (.int .u8 (rd x1_1 7))) (ds := []) #[false, false, false, false, false, false, false] (by kernel_rfl) rfl rfl (hx117_0) (fun hHeld => ?_)
            generalize wr.drew = w19 at HO_1 HO_6 BK109 BK110 HB HO115 hx117_0 hHeld ⊢
            refine pure_ (i := 0) (N := some 12) (v := ?_) (a' := ?_) #[true, false, false, false, false, false, false] rfl rfl (by kernel_rfl) (fun _ _ _ h => h) (Or.inl ⟨by rfl, ?_⟩) ?_ ?_
            rotate_left
            ·intro w'; go_simp; with_reducible rfl
            rotate_left
            ·simp only [Act.put, List.setIfInBounds_toArray, List.set_cons_zero, List.set_cons_succ, i64_w, i32_w]; rfl
            refine pure_ (i := 1) (N := some 13) (v := ?_) (a' := ?_) #[true, true, false, false, false, false, false] rfl rfl (by kernel_rfl) (fun _ _ _ h => h) (Or.inl ⟨by rfl, ?_⟩) ?_ ?_
            rotate_left
            ·intro w'; go_simp; with_reducible rfl
            rotate_left
            ·simp only [Act.put, List.setIfInBounds_toArray, List.set_cons_zero, List.set_cons_succ, i64_w, i32_w]; rfl
            refine pure_ (i := 3) (N := some 15) (v := ?_) (a' := ?_) #[true, true, false, true, false, false, false] rfl rfl (by kernel_rfl) (fun _ _ _ h => h) (Or.inl ⟨by rfl, ?_⟩) ?_ ?_
            rotate_left
            ·intro w'; go_simp; with_reducible rfl
            rotate_left
            ·simp only [Act.put, List.setIfInBounds_toArray, List.set_cons_zero, List.set_cons_succ, i64_w, i32_w]; rfl
            refine pure_ (i := 4) (N := some 16) (v := ?_) (a' := ?_) #[true, true, false, true, true, false, false] rfl rfl (by kernel_rfl) (fun _ _ _ h => h) (Or.inl ⟨by rfl, ?_⟩) ?_ ?_
            rotate_left
            ·intro w'; go_simp; with_reducible rfl
            rotate_left
            ·simp only [Act.put, List.setIfInBounds_toArray, List.set_cons_zero, List.set_cons_succ, i64_w, i32_w]; rfl
            refine take_ (i := 5) (N := some 17) (v := ?_) (a' := ?_) #[true, true, false, true, true, true, false] rfl rfl (by kernel_rfl) (fun _ _ _ h => h) (Or.inl ⟨by rfl, ?_⟩) hHeld ?_ ?_
            rotate_left
            ·intro w' s0; go_simp; with_reducible rfl
            rotate_left
            ·simp only [Act.put, List.setIfInBounds_toArray, List.set_cons_zero, List.set_cons_succ, i64_w, i32_w]; rfl
            refine one_ (i := 2) (N := some 14) #[true, true, true, true, true, true, false] rfl rfl (by kernel_rfl) (by decide) (fun K hK => ?_)
            refine goes_ Try.func68 (by kernel_rfl) rfl #[.slice (some ad117) y111.length co18] (by rfl) rfl rfl Sq.m ?_
            with_reducible refine (bus_Check.calls k1 _ _ y111 t116 _ ?side1 ?side2 A7.out).mono ?_
            (case side1 => repeat (first | exact (Kd.V_reads' HO115.out).2.2 | (with_reducible refine Kd.C_alloc ?_ _) | (with_reducible refine Kd.C_drewN ?_ _) | (with_reducible refine Kd.C_drew ?_)))
            (case side2 => exact (Kd.V_reads' HO115.out).2.1)
            rintro e w' ⟨rfl, ⟨nd, rfl⟩⟩
            refine ⟨_, rfl, ?_⟩
            refine hK.out _ _ (hHeld) (fun hHeld => ?_)
            clear hK K
            refine norm_ (a' := ?_) ?_ ?_
            rotate_left
            ·show Act.put _ (some 14) _ = _; simp only [Act.put, List.setIfInBounds_toArray, List.set_cons_zero, List.set_cons_succ, i64_w, i32_w]; rfl
            refine pure_ (i := 6) (N := some 18) (v := ?_) (a' := ?_) #[true, true, true, true, true, true, true] rfl rfl (by kernel_rfl) (fun _ _ _ h => h) (Or.inl ⟨by rfl, ?_⟩) ?_ ?_
            rotate_left
            ·intro w'; go_simp; with_reducible rfl
            rotate_left
            ·simp only [Act.put, List.setIfInBounds_toArray, List.set_cons_zero, List.set_cons_succ, i64_w, i32_w]; rfl
            refine done_ (by kernel_rfl) ?_
            try go_wp2
            (try (rw [drewN_self w19]; generalize hq_ : World.drewN w19 _ = w19; have n0_ : Aside0 (Kd.V (Kd.int .u8) 5 w19 w.heap.size (fun k_ => (P1_ k_ ∨ w.heap.size ≤ k_) ∧ some k_ ≠ (u6 : Value).ownBlock ∧ k_ ≠ gb109 ∧ k_ ≠ gb110) (.slice (some ad117) y111.length co18) y111) := ⟨by rw [← hq_]; exact (Sq.rV HO115.out)⟩; have n1_ : Aside0 (Kd.V (Kd.int .u8) 5 w19 w.heap.size (fun k_ => (P1_ k_ ∨ w.heap.size ≤ k_) ∧ some k_ ≠ (u6 : Value).ownBlock ∧ k_ ≠ gb109 ∧ k_ ≠ gb110) (.slice (some ad117) x1_1.length co18) x1_1) := ⟨by rw [← hq_]; exact (Sq.rV HO_1.out)⟩; have n2_ : Aside0 (Kd.R k55 55 w19 w.heap.size (fun k_ => (w.heap.size ≤ k_)) u6 x6_1) := ⟨by rw [← hq_]; exact (Sq.rR HO_6.out)⟩; have n3_ : Aside0 (w19.heap[gb109]? = some (.cells #[.int .i64 a0_0, .int .i64 a0_1, .bool a0_2, .int .i64 a0_3, .int .i64 a0_4, .int .i64 a0_5, .bool a0_6, .int .i64 a0_7, .int .i64 x110008_1] 24 (0, 0))) := ⟨by rw [← hq_]; exact (Sq.b BK109.out)⟩; have n4_ : Aside0 (w19.heap[gb110]? = some (.cells #[.int .i64 0, .int .i64 0, .bool false, .int .i64 0, .int .i64 0, .int .i64 0, .bool false, .int .i64 0, .int .i64 0] 24 (0, 0))) := ⟨by rw [← hq_]; exact (Sq.b BK110.out)⟩; have n5_ : Aside0 (Below w.heap.size w w19) := ⟨by rw [← hq_]; exact (Sq.w HB.out)⟩; clear HO115 HO_1 HO_6 BK109 BK110 HB hq_; have HO115 := n0_; have HO_1 := n1_; have HO_6 := n2_; have BK109 := n3_; have BK110 := n4_; have HB := n5_; clear n0_ n1_ n2_ n3_ n4_ n5_))
            replace HO_1 := Aside0.mk (Kd.V_drew HO_1.out); replace HO_6 := Aside0.mk (Kd.R_drew HO_6.out); replace HO115 := Aside0.mk (Kd.V_drew HO115.out); replace BK109 := Aside0.mk (blk_drew BK109.out); replace BK110 := Aside0.mk (blk_drew BK110.out); replace HB := Aside0.mk (below_drew1 HB.out)
            have q22 : (2 : Int) ≤ ((x1_1.length : Int) : Int) := of_decide_eq_true (by first | (with_reducible assumption) | assumption)
            obtain ⟨i022, hi022, _, hsz22, _⟩ := info_parts info5
            have hroom22 : x1_1.length ≤ co18 := (Kd.V_reads' HO_1.out).2.1
            have hC22 : Kd.F (Kd.int .u8) _ _ (some ad117) x1_1.length x1_1 := (Kd.V_at (base := w.heap.size) HO_1.out).2.2
            have hcut22 := cut_from (P := Try.prog) 25 5 .i64 Try.underlying25 hi022 1 hsz22 (some ad117) x1_1.length co18 2 (by omega) q22
            have hr22 := Kd.F_cut (m := (2 : Int).toNat) (c := co18) hC22 (by omega) hroom22
            obtain ⟨A22, hA22⟩ : ∃ A1, A1 = (if co18 = (2 : Int).toNat then (some ad117) else ((some ad117) : Option Addr).map (·.add ((2 : Int).toNat * 1))) := ⟨_, rfl⟩
            obtain ⟨c22, hc22⟩ : ∃ c1, c1 = co18 - (2 : Int).toNat := ⟨_, rfl⟩
            have hy22 : y119.length = x1_1.length - (2 : Int).toNat := (by rw [Ny119.out, List.length_drop] <;> omega)
            rw [show (x1_1).drop (2 : Int).toNat = y119 from Ny119.out.symm] at hr22
            replace hr22 : Kd.F (Kd.int .u8) _ _ A22 y119.length y119 := (by rw [hA22]; exact hr22)
            rw [← hy22, ← hA22, ← hc22] at hcut22
            have HO123 := Aside0.mk (show Kd.V (Kd.int .u8) 5 _ w.heap.size _ (.slice A22 y119.length c22) y119 from Kd.V_mk (by rw [hy22, hc22]; exact Nat.sub_le_sub_right hroom22 _) hr22)
            have HC123 := Aside0.mk (show y119.length ≤ c22 from by rw [hy22, hc22]; exact Nat.sub_le_sub_right hroom22 _)
            clear hr22 hC22 hroom22 hi022 hsz22 hc22
            have KY22 := Aside0.mk hy22
            have KA22 := Aside0.mk hA22
            clear hy22 hA22
            replace q22 := eq_true q22
            have q23 : (4 : Int) ≤ ((x1_1.length : Int) : Int) := of_decide_eq_true (by first | (with_reducible assumption) | assumption)
            obtain ⟨i023, hi023, _, hsz23, _⟩ := info_parts info5
            have hroom23 : x1_1.length ≤ co18 := (Kd.V_reads' HO_1.out).2.1
            have hC23 : Kd.F (Kd.int .u8) _ _ (some ad117) x1_1.length x1_1 := (Kd.V_at (base := w.heap.size) HO_1.out).2.2
            have hcut23 := cut_from (P := Try.prog) 25 5 .i64 Try.underlying25 hi023 1 hsz23 (some ad117) x1_1.length co18 4 (by omega) q23
            have hr23 := Kd.F_cut (m := (4 : Int).toNat) (c := co18) hC23 (by omega) hroom23
            obtain ⟨A23, hA23⟩ : ∃ A1, A1 = (if co18 = (4 : Int).toNat then (some ad117) else ((some ad117) : Option Addr).map (·.add ((4 : Int).toNat * 1))) := ⟨_, rfl⟩
            obtain ⟨c23, hc23⟩ : ∃ c1, c1 = co18 - (4 : Int).toNat := ⟨_, rfl⟩
            have hy23 : y125.length = x1_1.length - (4 : Int).toNat := (by rw [Ny125.out, List.length_drop] <;> omega)
            rw [show (x1_1).drop (4 : Int).toNat = y125 from Ny125.out.symm] at hr23
            replace hr23 : Kd.F (Kd.int .u8) _ _ A23 y125.length y125 := (by rw [hA23]; exact hr23)
            rw [← hy23, ← hA23, ← hc23] at hcut23
            have HO129 := Aside0.mk (show Kd.V (Kd.int .u8) 5 _ w.heap.size _ (.slice A23 y125.length c23) y125 from Kd.V_mk (by rw [hy23, hc23]; exact Nat.sub_le_sub_right hroom23 _) hr23)
            have HC129 := Aside0.mk (show y125.length ≤ c23 from by rw [hy23, hc23]; exact Nat.sub_le_sub_right hroom23 _)
            clear hr23 hC23 hroom23 hi023 hsz23 hc23
            have KY23 := Aside0.mk hy23
            have KA23 := Aside0.mk hA23
            clear hy23 hA23
            replace q23 := eq_true q23
            have p131 : 0 ≤ (6 : Int) := (by omega)
            have q131 : 6 < (x1_1.length : Int) := of_decide_eq_true (by first | (with_reducible assumption) | assumption)
            obtain ⟨ad131, e131, hx131_0⟩ := Kd.at_int (Kd.V_reads' HO_1.out).2.2 6 p131 q131
            obtain rfl : ad117 = ad131 := (by injection e131)
            (try simp only [show (6 : Int).toNat = 6 from rfl, Nat.reduceMul, Nat.reduceEqDiff, Go.Addr.add, ↓reduceIte] at hx131_0)
            have qi131 : (6 < x1_1.length) = True := eq_true (by omega)
            (try rw [show ((6 : Int)).toNat = 6 from rfl] at hx131_0)
            replace p131 := eq_true p131
            replace q131 := eq_true q131
            refine start_ (n := 18) (S := fun w' => w'.cell? ⟨ad117.block, ad117.off + 6, none⟩ = some (.int .u8 (rd x1_1 6))) (ds := [15, 16]) #[false, false, false, false, false, false, false, false, false, false, false, false, false, false, false, false, false, false] (by kernel_rfl) rfl rfl (hx131_0) (fun hHeld => ?_); refine with_tabW drv_samples.tab6 drv_samples.bits6 (fun HT_ HW_ => ?_)
            generalize w19.drew = w21 at HO_1 HO_6 HO115 BK109 BK110 HB HO123 HO129 hx131_0 hHeld ⊢
            refine pure_ (i := 0) (N := some 24) (v := ?_) (a' := ?_) #[true, false, false, false, false, false, false, false, false, false, false, false, false, false, false, false, false, false] rfl rfl (any_of HT_.out (by kernel_rfl)) (fun _ _ _ h => h) (Or.inl ⟨by rfl, ?_⟩) ?_ ?_
            rotate_left
            ·intro w'; go_simp; with_reducible rfl
            rotate_left
            ·simp only [Act.put, List.setIfInBounds_toArray, List.set_cons_zero, List.set_cons_succ, i64_w, i32_w]; rfl
            refine pure_ (i := 1) (N := some 25) (v := ?_) (a' := ?_) #[true, true, false, false, false, false, false, false, false, false, false, false, false, false, false, false, false, false] rfl rfl (any_of HT_.out (by kernel_rfl)) (fun _ _ _ h => h) (Or.inl ⟨by rfl, ?_⟩) ?_ ?_
            rotate_left
            ·intro w'; go_simp; with_reducible rfl
            rotate_left
            ·simp only [Act.put, List.setIfInBounds_toArray, List.set_cons_zero, List.set_cons_succ, i64_w, i32_w]; rfl
            refine pure_ (i := 3) (N := some 27) (v := ?_) (a' := ?_) #[true, true, false, true, false, false, false, false, false, false, false, false, false, false, false, false, false, false] rfl rfl (any_of HT_.out (by kernel_rfl)) (fun _ _ _ h => h) (Or.inl ⟨by rfl, ?_⟩) ?_ ?_
            rotate_left
            ·intro w'; go_simp; with_reducible rfl
            rotate_left
            ·simp only [Act.put, List.setIfInBounds_toArray, List.set_cons_zero, List.set_cons_succ, i64_w, i32_w]; rfl
            refine pure_ (i := 4) (N := some 28) (v := ?_) (a' := ?_) #[true, true, false, true, true, false, false, false, false, false, false, false, false, false, false, false, false, false] rfl rfl (any_of HT_.out (by kernel_rfl)) (fun _ _ _ h => h) (Or.inl ⟨by rfl, ?_⟩) ?_ ?_
            rotate_left
            ·intro w'; go_simp; with_reducible rfl
            rotate_left
            ·simp only [Act.put, List.setIfInBounds_toArray, List.set_cons_zero, List.set_cons_succ, i64_w, i32_w]; rfl
            refine pure_ (i := 6) (N := some 30) (v := ?_) (a' := ?_) #[true, true, false, true, true, false, true, false, false, false, false, false, false, false, false, false, false, false] rfl rfl (any_of HT_.out (by kernel_rfl)) (fun _ _ _ h => h) (Or.inl ⟨by rfl, ?_⟩) ?_ ?_
            rotate_left
            ·intro w'; go_simp; with_reducible rfl
            rotate_left
            ·simp only [Act.put, List.setIfInBounds_toArray, List.set_cons_zero, List.set_cons_succ, i64_w, i32_w]; rfl
            refine pure_ (i := 7) (N := some 31) (v := ?_) (a' := ?_) #[true, true, false, true, true, false, true, true, false, false, false, false, false, false, false, false, false, false] rfl rfl (any_of HT_.out (by kernel_rfl)) (fun _ _ _ h => h) (Or.inl ⟨by rfl, ?_⟩) ?_ ?_
            rotate_left
            ·intro w'; go_simp; with_reducible rfl
            rotate_left
            ·simp only [Act.put, List.setIfInBounds_toArray, List.set_cons_zero, List.set_cons_succ, i64_w, i32_w]; rfl
            refine pure_ (i := 9) (N := some 33) (v := ?_) (a' := ?_) #[true, true, false, true, true, false, true, true, false, true, false, false, false, false, false, false, false, false] rfl rfl (any_of HT_.out (by kernel_rfl)) (fun _ _ _ h => h) (Or.inl ⟨by rfl, ?_⟩) ?_ ?_
            rotate_left
            ·intro w'; go_simp; with_reducible rfl
            rotate_left
            ·simp only [Act.put, List.setIfInBounds_toArray, List.set_cons_zero, List.set_cons_succ, i64_w, i32_w]; rfl
            refine pure_ (i := 10) (N := some 34) (v := ?_) (a' := ?_) #[true, true, false, true, true, false, true, true, false, true, true, false, false, false, false, false, false, false] rfl rfl (any_of HT_.out (by kernel_rfl)) (fun _ _ _ h => h) (Or.inl ⟨by rfl, ?_⟩) ?_ ?_
            rotate_left
            ·intro w'; go_simp; with_reducible rfl
            rotate_left
            ·simp only [Act.put, List.setIfInBounds_toArray, List.set_cons_zero, List.set_cons_succ, i64_w, i32_w]; rfl
            refine take_ (i := 11) (N := some 35) (v := ?_) (a' := ?_) #[true, true, false, true, true, false, true, true, false, true, true, true, false, false, false, false, false, false] rfl rfl (take_ofW HT_.out HW_.out (by kernel_rfl)) (fun _ _ _ h => h) (Or.inl ⟨by rfl, ?_⟩) hHeld ?_ ?_
            rotate_left
            ·intro w' s0; go_simp; with_reducible rfl
            rotate_left
            ·simp only [Act.put, List.setIfInBounds_toArray, List.set_cons_zero, List.set_cons_succ, i64_w, i32_w]; rfl
            refine pure_ (i := 12) (N := some 36) (v := ?_) (a' := ?_) #[true, true, false, true, true, false, true, true, false, true, true, true, true, false, false, false, false, false] rfl rfl (any_of HT_.out (by kernel_rfl)) (fun _ _ _ h => h) (Or.inl ⟨by rfl, ?_⟩) ?_ ?_
            rotate_left
            ·intro w'; go_simp; with_reducible rfl
            rotate_left
            ·simp only [Act.put, List.setIfInBounds_toArray, List.set_cons_zero, List.set_cons_succ, i64_w, i32_w]; rfl
            refine pure_ (i := 13) (N := some 37) (v := ?_) (a' := ?_) #[true, true, false, true, true, false, true, true, false, true, true, true, true, true, false, false, false, false] rfl rfl (any_of HT_.out (by kernel_rfl)) (fun _ _ _ h => h) (Or.inl ⟨by rfl, ?_⟩) ?_ ?_
            rotate_left
            ·intro w'; go_simp; with_reducible rfl
            rotate_left
            ·simp only [Act.put, List.setIfInBounds_toArray, List.set_cons_zero, List.set_cons_succ, i64_w, i32_w]; rfl
            refine one_ (i := 2) (N := some 26) #[true, true, true, true, true, false, true, true, false, true, true, true, true, true, false, false, false, false] rfl rfl (one_of HT_.out (by kernel_rfl)) (by decide) (fun K hK => ?_)
            refine goes_ Try.func69 (by kernel_rfl) rfl #[.slice (some ad117) x1_1.length co18] (by rfl) rfl rfl Sq.m ?_
            with_reducible refine (drv_number.calls _ _ x1_1 t118 _ ?side1 ?side2 A10.out).mono ?_
            (case side1 => repeat (first | exact (Kd.V_reads' HO_1.out).2.2 | (with_reducible refine Kd.C_alloc ?_ _) | (with_reducible refine Kd.C_drewN ?_ _) | (with_reducible refine Kd.C_drew ?_)))
            (case side2 => exact (Kd.V_reads' HO_1.out).2.1)
            rintro e w' ⟨rfl, ⟨nd, rfl⟩⟩
            refine ⟨_, rfl, ?_⟩
            refine hK.out _ _ (hHeld) (fun hHeld => ?_)
            clear hK K
            refine norm_ (a' := ?_) ?_ ?_
            rotate_left
            ·show Act.put _ (some 26) _ = _; simp only [Act.put, List.setIfInBounds_toArray, List.set_cons_zero, List.set_cons_succ, i64_w, i32_w]; rfl
            refine one_ (i := 5) (N := some 29) #[true, true, true, true, true, true, true, true, false, true, true, true, true, true, false, false, false, false] rfl rfl (one_of HT_.out (by kernel_rfl)) (by decide) (fun K hK => ?_)
            refine goes_ Try.func69 (by kernel_rfl) rfl #[.slice A22 y119.length c22] (by rfl) rfl rfl Sq.m ?_
            with_reducible refine (drv_number.calls _ _ y119 t124 _ ?side1 ?side2 A12.out).mono ?_
            (case side1 => repeat (first | exact (Kd.V_reads' HO123.out).2.2 | (with_reducible refine Kd.C_alloc ?_ _) | (with_reducible refine Kd.C_drewN ?_ _) | (with_reducible refine Kd.C_drew ?_)))
            (case side2 => exact (Kd.V_reads' HO123.out).2.1)
            rintro e w' ⟨rfl, ⟨nd, rfl⟩⟩
            refine ⟨_, rfl, ?_⟩
            refine hK.out _ _ (hHeld) (fun hHeld => ?_)
            clear hK K
            refine norm_ (a' := ?_) ?_ ?_
            rotate_left
            ·show Act.put _ (some 29) _ = _; simp only [Act.put, List.setIfInBounds_toArray, List.set_cons_zero, List.set_cons_succ, i64_w, i32_w]; rfl
            refine one_ (i := 8) (N := some 32) #[true, true, true, true, true, true, true, true, true, true, true, true, true, true, false, false, false, false] rfl rfl (one_of HT_.out (by kernel_rfl)) (by decide) (fun K hK => ?_)
            refine goes_ Try.func69 (by kernel_rfl) rfl #[.slice A23 y125.length c23] (by rfl) rfl rfl Sq.m ?_
            with_reducible refine (drv_number.calls _ _ y125 t130 _ ?side1 ?side2 A14.out).mono ?_
            (case side1 => repeat (first | exact (Kd.V_reads' HO129.out).2.2 | (with_reducible refine Kd.C_alloc ?_ _) | (with_reducible refine Kd.C_drewN ?_ _) | (with_reducible refine Kd.C_drew ?_)))
            (case side2 => exact (Kd.V_reads' HO129.out).2.1)
            rintro e w' ⟨rfl, ⟨nd, rfl⟩⟩
            refine ⟨_, rfl, ?_⟩
            refine hK.out _ _ (hHeld) (fun hHeld => ?_)
            clear hK K
            refine norm_ (a' := ?_) ?_ ?_
            rotate_left
            ·show Act.put _ (some 32) _ = _; simp only [Act.put, List.setIfInBounds_toArray, List.set_cons_zero, List.set_cons_succ, i64_w, i32_w]; rfl
            refine pure_ (i := 14) (N := some 38) (v := ?_) (a' := ?_) #[true, true, true, true, true, true, true, true, true, true, true, true, true, true, true, false, false, false] rfl rfl (any_of HT_.out (by kernel_rfl)) (fun _ _ _ h => h) (Or.inl ⟨by rfl, ?_⟩) ?_ ?_
            rotate_left
            ·intro w'; go_simp; with_reducible rfl
            rotate_left
            ·simp only [Act.put, List.setIfInBounds_toArray, List.set_cons_zero, List.set_cons_succ, i64_w, i32_w]; rfl
            refine last_ (i := 15) (N := some 39) #[true, true, true, true, true, true, true, true, true, true, true, true, true, true, true, true, false, false] rfl rfl (one_of HT_.out (by kernel_rfl)) (by decide) (fun K hK => ?_)
            refine value_ (w1 := ?_) (v := ?_) (by rfl) rfl ?_ ?_
            rotate_left 2
            ·go_simp
             constructor
             ·rfl
             ·rfl
            refine hK.out _ _ ?_
            clear hK K
            refine norm_ (a' := ?_) ?_ ?_
            rotate_left
            ·show Act.put _ (some 39) _ = _; simp only [Act.put, List.setIfInBounds_toArray, List.set_cons_zero, List.set_cons_succ, i64_w, i32_w]; rfl
            refine last_ (i := 16) (N := some 40) #[true, true, true, true, true, true, true, true, true, true, true, true, true, true, true, true, true, false] rfl rfl (one_of HT_.out (by kernel_rfl)) (by decide) (fun K hK => ?_)
            refine Kd.R_append_step k55 (w0 := w) w.heap.size (by rfl) (.tmp 24) (.tmp 39) 47 55 (.agg #[(.int .i64 0), (.int .i64 0), (.int .i64 0), (.int .i64 0)]) 32 rfl Try.underlying47 info55 rfl (by decide) (by omega) u6 x6_1 (⟨t118, t124, t130, wrap64 (IntKind.i8.wrap (rd x1_1 6))⟩ : S55) [.int .i64 t118, .int .i64 t124, .int .i64 t130, .int .i64 (wrap64 (IntKind.i8.wrap (rd x1_1 6)))] (fun k_ => (w.heap.size ≤ k_)) (fun _ => False) rfl rfl ?aP (fun _ hk => hk.elim) ?aF ?aO ?aB ?aS ?aL ?_
            (case aP => exact k55_mkM _ _ _ (⟨t118, t124, t130, wrap64 (IntKind.i8.wrap (rd x1_1 6))⟩ : S55))
            (case aB => exact (Sq.w HB.out))
            (case aF => exact (fun k_ hk => (Nat.le_trans (below_size (Sq.w HB.out)) hk)))
            (case aO => exact (Sq.rR HO_6.out))
            (case aS => exact (below_size (Sq.w HB.out)))
            (case aL => have := LMc16.out; omega)
            intro v133 w24 ho hb hg hat
            rw [← Ny132.out] at ho
            have HO134 := Aside0.mk (ho); replace HO_1 := Aside0.mk (Kd.V_afterv (ok := (fun k_ => (P1_ k_ ∨ w.heap.size ≤ k_) ∧ k_ ≠ gb109 ∧ k_ ≠ gb110)) (Sq.rV (Kd.V_mono HO_1.out (fun _ hk => ⟨⟨hk.1, ⟨hk.2.2.1, hk.2.2.2⟩⟩, hk.2.1⟩))) hg hat); replace BK109 := Aside0.mk (blk_grown (g := gb109) (o := .cells #[.int .i64 a0_0, .int .i64 a0_1, .bool a0_2, .int .i64 a0_3, .int .i64 a0_4, .int .i64 a0_5, .bool a0_6, .int .i64 a0_7, .int .i64 x110008_1] 24 (0, 0)) (Sq.b BK109.out) hg (Kd.R_ne HO_6.out BK109.out (by decide))); replace BK110 := Aside0.mk (blk_grown (g := gb110) (o := .cells #[.int .i64 0, .int .i64 0, .bool false, .int .i64 0, .int .i64 0, .int .i64 0, .bool false, .int .i64 0, .int .i64 0] 24 (0, 0)) (Sq.b BK110.out) hg (Kd.R_ne HO_6.out BK110.out (by decide))); replace HO115 := Aside0.mk (Kd.V_afterv (ok := (fun k_ => (P1_ k_ ∨ w.heap.size ≤ k_) ∧ k_ ≠ gb109 ∧ k_ ≠ gb110)) (Sq.rV (Kd.V_mono HO115.out (fun _ hk => ⟨⟨hk.1, ⟨hk.2.2.1, hk.2.2.2⟩⟩, hk.2.1⟩))) hg hat); replace HO123 := Aside0.mk (Kd.V_afterv (ok := (fun k_ => (P1_ k_ ∨ w.heap.size ≤ k_) ∧ k_ ≠ gb109 ∧ k_ ≠ gb110)) (Sq.rV (Kd.V_mono HO123.out (fun _ hk => ⟨⟨hk.1, ⟨hk.2.2.1, hk.2.2.2⟩⟩, hk.2.1⟩))) hg hat); replace HO129 := Aside0.mk (Kd.V_afterv (ok := (fun k_ => (P1_ k_ ∨ w.heap.size ≤ k_) ∧ k_ ≠ gb109 ∧ k_ ≠ gb110)) (Sq.rV (Kd.V_mono HO129.out (fun _ hk => ⟨⟨hk.1, ⟨hk.2.2.1, hk.2.2.2⟩⟩, hk.2.1⟩))) hg hat); replace HB := Aside0.mk (hb); clear HO_6
            clear ho hb hg hat
            refine hK.out _ _ ?_
            clear hK K
            refine norm_ (a' := ?_) ?_ ?_
            rotate_left
            ·show Act.put _ (some 40) _ = _; simp only [Act.put, List.setIfInBounds_toArray, List.set_cons_zero, List.set_cons_succ, i64_w, i32_w]; rfl
            refine pure_ (i := 17) (N := some 6) (v := ?_) (a' := ?_) #[true, true, true, true, true, true, true, true, true, true, true, true, true, true, true, true, true, true] rfl rfl (any_of HT_.out (by kernel_rfl)) (fun _ _ _ h => h) (Or.inl ⟨by rfl, ?_⟩) ?_ ?_
            rotate_left
            ·intro w'; go_simp; with_reducible rfl
            rotate_left
            ·simp only [Act.put, List.setIfInBounds_toArray, List.set_cons_zero, List.set_cons_succ, i64_w, i32_w]; rfl
            refine done_ (done_of HT_.out (by kernel_rfl)) ?_
            have q25 : (8 : Int) ≤ ((x1_1.length : Int) : Int) := of_decide_eq_true (by first | (with_reducible assumption) | assumption)
            obtain ⟨i025, hi025, _, hsz25, _⟩ := info_parts info5
            have hroom25 : x1_1.length ≤ co18 := (Kd.V_reads' HO_1.out).2.1
            have hC25 : Kd.F (Kd.int .u8) _ _ (some ad117) x1_1.length x1_1 := (Kd.V_at (base := w.heap.size) HO_1.out).2.2
            have hcut25 := cut_from (P := Try.prog) 25 5 .i64 Try.underlying25 hi025 1 hsz25 (some ad117) x1_1.length co18 8 (by omega) q25
            have hr25 := Kd.F_cut (m := (8 : Int).toNat) (c := co18) hC25 (by omega) hroom25
            obtain ⟨A25, hA25⟩ : ∃ A1, A1 = (if co18 = (8 : Int).toNat then (some ad117) else ((some ad117) : Option Addr).map (·.add ((8 : Int).toNat * 1))) := ⟨_, rfl⟩
            obtain ⟨c25, hc25⟩ : ∃ c1, c1 = co18 - (8 : Int).toNat := ⟨_, rfl⟩
            have hy25 : y135.length = x1_1.length - (8 : Int).toNat := (by rw [Ny135.out, List.length_drop] <;> omega)
            rw [show (x1_1).drop (8 : Int).toNat = y135 from Ny135.out.symm] at hr25
            replace hr25 : Kd.F (Kd.int .u8) _ _ A25 y135.length y135 := (by rw [hA25]; exact hr25)
            rw [← hy25, ← hA25, ← hc25] at hcut25
            have HO139 := Aside0.mk (show Kd.V (Kd.int .u8) 5 _ w.heap.size _ (.slice A25 y135.length c25) y135 from Kd.V_mk (by rw [hy25, hc25]; exact Nat.sub_le_sub_right hroom25 _) hr25)
            have HC139 := Aside0.mk (show y135.length ≤ c25 from by rw [hy25, hc25]; exact Nat.sub_le_sub_right hroom25 _)
            clear hr25 hC25 hroom25 hi025 hsz25 hc25
            have KY25 := Aside0.mk hy25
            have KA25 := Aside0.mk hA25
            clear hy25 hA25
            replace q25 := eq_true q25
            try go_wp2
            refine Cu.handed k1 (by have := HK1.out; omega) (by assumption) ?_ (by kernel_rfl) (by kernel_rfl)
            try dsimp only [Cu.pick, Cu.rep, Cu.nth]
            exact ⟨(y135), (y132), (x110008_1), H', ⟨by have := HK1.out; omega⟩, ⟨Sq.rV (Kd.V_mono HO139.out (fun _ hk => ⟨hk.1.1, ⟨hk.2, ⟨hk.1.2.1, hk.1.2.2⟩⟩⟩))⟩, ⟨Sq.rR HO134.out⟩, ⟨Sq.b BK109.out⟩, ⟨Sq.b BK110.out⟩, ⟨Sq.w HB.out⟩⟩
           ·rw [if_neg c17] at H
            exact absurd H (by simp)
          ·rw [if_neg c16] at H
           exact absurd H (by simp)
         ·rw [if_neg c15] at H
          exact absurd H (by simp)
        ·rw [if_neg c13] at H
         exact absurd H (by simp)
       ·rw [if_neg c11] at H
        exact absurd H (by simp)
      ·rw [if_neg c9] at H
       have c9b0 : (t116 == (rd x1_1 7)) = false := beq_eq_false_iff_ne.mpr c9
       have c9b1 : (t116 != (rd x1_1 7)) = true := bne_iff_ne.mpr c9
       obtain ⟨ji26, hji26⟩ : ∃ j_ : Int, (mn (wrap64 (x110008_1 + 1)) 1099511627776) = j_ := ⟨_, rfl⟩
       replace H : (if 8 ≤ (x1_1.length : Int) then (drv_samples.l0 k1 (x1_1.drop 8) x6_1 a0_0 a0_1 a0_2 a0_3 a0_4 a0_5 a0_6 a0_7 ji26) else (none)) = some (r1, r2, r3, r4, r5, r6, r7, r8, r9, r10) := by first | (rw [hji26] at H; exact H) | (simp only [hji26] at H ⊢; exact H)
       (try rw [hji26] at A7)
       have hji26_ : (if 1099511627776 < (wrap64 (x110008_1 + 1)) then 1099511627776 else (wrap64 (x110008_1 + 1))) = ji26 := hji26
       by_cases c27 : 8 ≤ (x1_1.length : Int)
       ·rw [if_pos c27] at H
        have c27b0 := eq_true c27
        have c27b1 : decide (8 ≤ (x1_1.length : Int)) = true := decide_eq_true c27
        clear c27
        obtain ⟨y140, hy140⟩ : ∃ y_ : List Int, y_ = (x1_1.drop 8) := ⟨_, rfl⟩
        replace H : (drv_samples.l0 k1 y140 x6_1 a0_0 a0_1 a0_2 a0_3 a0_4 a0_5 a0_6 a0_7 ji26) = some (r1, r2, r3, r4, r5, r6, r7, r8, r9, r10) := by first | (rw [hy140]; with_reducible exact H) | (have H2_ := (Option.bind_some _ _).symm.trans H; rw [hy140]; with_reducible exact H2_) | (have H2_ := (Option.bind_some _ _).symm.trans H; with_reducible exact H2_) | with_reducible exact H | (rw [hy140]; exact H) | exact H
        have Ny140 := Aside0.mk hy140
        clear hy140
        have H' := Aside0.mk H
        clear H
        obtain ⟨Ao28, co28, eo28⟩ := Kd.V_slice HO_1.out
        subst eo28
        try go_wp2
        replace HO_1 := Aside0.mk (Kd.V_drew HO_1.out); replace HO_6 := Aside0.mk (Kd.R_drew HO_6.out); replace BK109 := Aside0.mk (blk_drew BK109.out); replace BK110 := Aside0.mk (blk_drew BK110.out); replace HB := Aside0.mk (below_drew1 HB.out)
        have q30 : (7 : Int) ≤ ((x1_1.length : Int) : Int) := of_decide_eq_true (by first | (with_reducible assumption) | assumption)
        obtain ⟨i030, hi030, _, hsz30, _⟩ := info_parts info5
        have hroom30 : x1_1.length ≤ co28 := (Kd.V_reads' HO_1.out).2.1
        have hC30 : Kd.F (Kd.int .u8) _ _ Ao28 x1_1.length x1_1 := (Kd.V_at (base := w.heap.size) HO_1.out).2.2
        have hcut30 := cut_to (P := Try.prog) 25 5 .i64 Try.underlying25 hi030 Ao28 x1_1.length co28 7 (by omega) q30 hroom30
        have hr30 := Kd.F_take (m := 7) hC30 (by omega)
        have hy30 : y111.length = (7 : Int).toNat := (by rw [Ny111.out, List.length_take]; omega)
        rw [← Ny111.out] at hr30
        rw [← hy30] at hcut30
        have HO115 := Aside0.mk (show Kd.V (Kd.int .u8) 5 _ w.heap.size _ (.slice Ao28 y111.length co28) y111 from Kd.V_mk (by omega) hr30)
        have HC115 := Aside0.mk (show y111.length ≤ co28 from by omega)
        clear hr30 hC30 hroom30 hi030 hsz30
        have KY30 := Aside0.mk hy30
        clear hy30
        replace q30 := eq_true q30
        have p117 : 0 ≤ (7 : Int) := (by omega)
        have q117 : 7 < (x1_1.length : Int) := of_decide_eq_true (by first | (with_reducible assumption) | assumption)
        obtain ⟨ad117, e117, hx117_0⟩ := Kd.at_int (Kd.V_reads' HO_1.out).2.2 7 p117 q117
        cases e117
        (try simp only [show (7 : Int).toNat = 7 from rfl, Nat.reduceMul, Nat.reduceEqDiff, Go.Addr.add, ↓reduceIte] at hx117_0)
        have qi117 : (7 < x1_1.length) = True := eq_true (by omega)
        (try rw [show ((7 : Int)).toNat = 7 from rfl] at hx117_0)
        replace p117 := eq_true p117
        replace q117 := eq_true q117
        refine start_ (n := 7) (S := fun w' => w'.cell? ⟨ad117.block, ad117.off + 7, none⟩ = some (.int .u8 (rd x1_1 7))) (ds := []) #[false, false, false, false, false, false, false] (by kernel_rfl) rfl rfl (hx117_0) (fun hHeld => ?_)
        generalize wr.drew = w29 at HO_1 HO_6 BK109 BK110 HB HO115 hx117_0 hHeld ⊢
        refine pure_ (i := 0) (N := some 12) (v := ?_) (a' := ?_) #[true, false, false, false, false, false, false] rfl rfl (by kernel_rfl) (fun _ _ _ h => h) (Or.inl ⟨by rfl, ?_⟩) ?_ ?_
        rotate_left
        ·intro w'; go_simp; with_reducible rfl
        rotate_left
        ·simp only [Act.put, List.setIfInBounds_toArray, List.set_cons_zero, List.set_cons_succ, i64_w, i32_w]; rfl
        refine pure_ (i := 1) (N := some 13) (v := ?_) (a' := ?_) #[true, true, false, false, false, false, false] rfl rfl (by kernel_rfl) (fun _ _ _ h => h) (Or.inl ⟨by rfl, ?_⟩) ?_ ?_
        rotate_left
        ·intro w'; go_simp; with_reducible rfl
        rotate_left
        ·simp only [Act.put, List.setIfInBounds_toArray, List.set_cons_zero, List.set_cons_succ, i64_w, i32_w]; rfl
        refine pure_ (i := 3) (N := some 15) (v := ?_) (a' := ?_) #[true, true, false, true, false, false, false] rfl rfl (by kernel_rfl) (fun _ _ _ h => h) (Or.inl ⟨by rfl, ?_⟩) ?_ ?_
        rotate_left
        ·intro w'; go_simp; with_reducible rfl
        rotate_left
        ·simp only [Act.put, List.setIfInBounds_toArray, List.set_cons_zero, List.set_cons_succ, i64_w, i32_w]; rfl
        refine pure_ (i := 4) (N := some 16) (v := ?_) (a' := ?_) #[true, true, false, true, true, false, false] rfl rfl (by kernel_rfl) (fun _ _ _ h => h) (Or.inl ⟨by rfl, ?_⟩) ?_ ?_
        rotate_left
        ·intro w'; go_simp; with_reducible rfl
        rotate_left
        ·simp only [Act.put, List.setIfInBounds_toArray, List.set_cons_zero, List.set_cons_succ, i64_w, i32_w]; rfl
        refine take_ (i := 5) (N := some 17) (v := ?_) (a' := ?_) #[true, true, false, true, true, true, false] rfl rfl (by kernel_rfl) (fun _ _ _ h => h) (Or.inl ⟨by rfl, ?_⟩) hHeld ?_ ?_
        rotate_left
        ·intro w' s0; go_simp; with_reducible rfl
        rotate_left
        ·simp only [Act.put, List.setIfInBounds_toArray, List.set_cons_zero, List.set_cons_succ, i64_w, i32_w]; rfl
        refine one_ (i := 2) (N := some 14) #[true, true, true, true, true, true, false] rfl rfl (by kernel_rfl) (by decide) (fun K hK => ?_)
        refine goes_ Try.func68 (by kernel_rfl) rfl #[.slice (some ad117) y111.length co28] (by rfl) rfl rfl Sq.m ?_
        with_reducible refine (bus_Check.calls k1 _ _ y111 t116 _ ?side1 ?side2 A7.out).mono ?_
        (case side1 => repeat (first | exact (Kd.V_reads' HO115.out).2.2 | (with_reducible refine Kd.C_alloc ?_ _) | (with_reducible refine Kd.C_drewN ?_ _) | (with_reducible refine Kd.C_drew ?_)))
        (case side2 => exact (Kd.V_reads' HO115.out).2.1)
        rintro e w' ⟨rfl, ⟨nd, rfl⟩⟩
        refine ⟨_, rfl, ?_⟩
        refine hK.out _ _ (hHeld) (fun hHeld => ?_)
        clear hK K
        refine norm_ (a' := ?_) ?_ ?_
        rotate_left
        ·show Act.put _ (some 14) _ = _; simp only [Act.put, List.setIfInBounds_toArray, List.set_cons_zero, List.set_cons_succ, i64_w, i32_w]; rfl
        refine pure_ (i := 6) (N := some 18) (v := ?_) (a' := ?_) #[true, true, true, true, true, true, true] rfl rfl (by kernel_rfl) (fun _ _ _ h => h) (Or.inl ⟨by rfl, ?_⟩) ?_ ?_
        rotate_left
        ·intro w'; go_simp; with_reducible rfl
        rotate_left
        ·simp only [Act.put, List.setIfInBounds_toArray, List.set_cons_zero, List.set_cons_succ, i64_w, i32_w]; rfl
        refine done_ (by kernel_rfl) ?_
        (try (rw [drewN_self w29]; generalize hq_ : World.drewN w29 _ = w29; have n0_ : Aside0 (Kd.V (Kd.int .u8) 5 w29 w.heap.size (fun k_ => (P1_ k_ ∨ w.heap.size ≤ k_) ∧ some k_ ≠ (u6 : Value).ownBlock ∧ k_ ≠ gb109 ∧ k_ ≠ gb110) (.slice (some ad117) y111.length co28) y111) := ⟨by rw [← hq_]; exact (Sq.rV HO115.out)⟩; have n1_ : Aside0 (Kd.V (Kd.int .u8) 5 w29 w.heap.size (fun k_ => (P1_ k_ ∨ w.heap.size ≤ k_) ∧ some k_ ≠ (u6 : Value).ownBlock ∧ k_ ≠ gb109 ∧ k_ ≠ gb110) (.slice (some ad117) x1_1.length co28) x1_1) := ⟨by rw [← hq_]; exact (Sq.rV HO_1.out)⟩; have n2_ : Aside0 (Kd.R k55 55 w29 w.heap.size (fun k_ => (w.heap.size ≤ k_)) u6 x6_1) := ⟨by rw [← hq_]; exact (Sq.rR HO_6.out)⟩; have n3_ : Aside0 (w29.heap[gb109]? = some (.cells #[.int .i64 a0_0, .int .i64 a0_1, .bool a0_2, .int .i64 a0_3, .int .i64 a0_4, .int .i64 a0_5, .bool a0_6, .int .i64 a0_7, .int .i64 x110008_1] 24 (0, 0))) := ⟨by rw [← hq_]; exact (Sq.b BK109.out)⟩; have n4_ : Aside0 (w29.heap[gb110]? = some (.cells #[.int .i64 0, .int .i64 0, .bool false, .int .i64 0, .int .i64 0, .int .i64 0, .bool false, .int .i64 0, .int .i64 0] 24 (0, 0))) := ⟨by rw [← hq_]; exact (Sq.b BK110.out)⟩; have n5_ : Aside0 (Below w.heap.size w w29) := ⟨by rw [← hq_]; exact (Sq.w HB.out)⟩; clear HO115 HO_1 HO_6 BK109 BK110 HB hq_; have HO115 := n0_; have HO_1 := n1_; have HO_6 := n2_; have BK109 := n3_; have BK110 := n4_; have HB := n5_; clear n0_ n1_ n2_ n3_ n4_ n5_))
        have b31 := NB109_110.out; have d31 := NB110_109.out
        obtain ⟨z32_0, z32_1, z32_2, z32_3, z32_4, z32_5, z32_6, z32_7, z32_8⟩ := Sq.c9 BK109.out
        obtain ⟨y32_0, y32_1, y32_2, y32_3, y32_4, y32_5, y32_6, y32_7, y32_8⟩ := Sq.f9 BK109.out
        try go_wp2_with (first | ((with_reducible refine gate_store (t := 3) (p := 23) rfl ?_); refine store_event (t := 3) (p := 23) (v := ?vo_w33) (w1 := (w29.setCell ⟨gb109, 8, none⟩ (.int .i64 ji26))) ?hg ?ho ?hn ?hr ?_; (case ho => rfl); (case hg => rfl); (case hn => rfl); (case hr => first | (go_simp; done) | (go_simp; rfl)); intro w33 hw; have n0_ : Aside0 (Kd.V (Kd.int .u8) 5 w33 w.heap.size (fun k_ => (P1_ k_ ∨ w.heap.size ≤ k_) ∧ some k_ ≠ (u6 : Value).ownBlock ∧ k_ ≠ gb109 ∧ k_ ≠ gb110) (.slice (some ad117) x1_1.length co28) x1_1) := ⟨(by rw [hw]; exact (Sq.rV (Kd.V_mono (Kd.V_far (p := ⟨gb109, 8, none⟩) (Kd.V_mono HO_1.out (fun k_ hk => (⟨hk, hk.2.2.1⟩ : _ ∧ k_ ≠ gb109))) (fun _ hk => hk.2) (.int .i64 ji26)) (fun _ hk => ⟨hk.1.1, ⟨hk.1.2.1, ⟨hk.1.2.2.1, hk.1.2.2.2⟩⟩⟩))))⟩; have n1_ : Aside0 (Kd.R k55 55 w33 w.heap.size (fun k_ => (w.heap.size ≤ k_)) u6 x6_1) := ⟨(by rw [hw]; exact (Sq.rR (Kd.R_mono (Kd.R_far (p := ⟨gb109, 8, none⟩) (Kd.R_types HO_6.out BK109.out (by decide)) (fun _ hk => hk.2) (.int .i64 ji26)) (fun _ hk => hk.1))))⟩; have n2_ : Aside0 (Kd.V (Kd.int .u8) 5 w33 w.heap.size (fun k_ => (P1_ k_ ∨ w.heap.size ≤ k_) ∧ some k_ ≠ (u6 : Value).ownBlock ∧ k_ ≠ gb109 ∧ k_ ≠ gb110) (.slice (some ad117) y111.length co28) y111) := ⟨(by rw [hw]; exact (Sq.rV (Kd.V_mono (Kd.V_far (p := ⟨gb109, 8, none⟩) (Kd.V_mono HO115.out (fun k_ hk => (⟨hk, hk.2.2.1⟩ : _ ∧ k_ ≠ gb109))) (fun _ hk => hk.2) (.int .i64 ji26)) (fun _ hk => ⟨hk.1.1, ⟨hk.1.2.1, ⟨hk.1.2.2.1, hk.1.2.2.2⟩⟩⟩))))⟩; have n3_ : Aside0 (w33.heap[gb109]? = some (.cells #[.int .i64 a0_0, .int .i64 a0_1, .bool a0_2, .int .i64 a0_3, .int .i64 a0_4, .int .i64 a0_5, .bool a0_6, .int .i64 a0_7, .int .i64 ji26] 24 (0, 0))) := ⟨(by rw [hw]; exact (Sq.B BK109.out))⟩; have n4_ : Aside0 (w33.heap[gb110]? = some (.cells #[.int .i64 0, .int .i64 0, .bool false, .int .i64 0, .int .i64 0, .int .i64 0, .bool false, .int .i64 0, .int .i64 0] 24 (0, 0))) := ⟨(by rw [hw]; exact (Sq.F BK110.out))⟩; have n5_ : Aside0 (Below w.heap.size w w33) := ⟨(by rw [hw]; exact (Sq.w HB.out))⟩; clear hw; clear HO_1; clear HO_6; clear HO115; clear BK109; clear BK110; clear HB; have HO_1 := n0_; have HO_6 := n1_; have HO115 := n2_; have BK109 := n3_; have BK110 := n4_; have HB := n5_; clear n0_ n1_ n2_ n3_ n4_ n5_; have q34 : (8 : Int) ≤ ((x1_1.length : Int) : Int) := of_decide_eq_true (by first | (with_reducible assumption) | assumption); obtain ⟨i034, hi034, _, hsz34, _⟩ := info_parts info5; have hroom34 : x1_1.length ≤ co28 := (Kd.V_reads' HO_1.out).2.1; have hC34 : Kd.F (Kd.int .u8) _ _ (some ad117) x1_1.length x1_1 := (Kd.V_at (base := w.heap.size) HO_1.out).2.2; have hcut34 := cut_from (P := Try.prog) 25 5 .i64 Try.underlying25 hi034 1 hsz34 (some ad117) x1_1.length co28 8 (by omega) q34; have hr34 := Kd.F_cut (m := (8 : Int).toNat) (c := co28) hC34 (by omega) hroom34; obtain ⟨A34, hA34⟩ : ∃ A1, A1 = (if co28 = (8 : Int).toNat then (some ad117) else ((some ad117) : Option Addr).map (·.add ((8 : Int).toNat * 1))) := ⟨_, rfl⟩; obtain ⟨c34, hc34⟩ : ∃ c1, c1 = co28 - (8 : Int).toNat := ⟨_, rfl⟩; have hy34 : y140.length = x1_1.length - (8 : Int).toNat := (by rw [Ny140.out, List.length_drop] <;> omega); rw [show (x1_1).drop (8 : Int).toNat = y140 from Ny140.out.symm] at hr34; replace hr34 : Kd.F (Kd.int .u8) _ _ A34 y140.length y140 := (by rw [hA34]; exact hr34); rw [← hy34, ← hA34, ← hc34] at hcut34; have HO144 := Aside0.mk (show Kd.V (Kd.int .u8) 5 _ w.heap.size _ (.slice A34 y140.length c34) y140 from Kd.V_mk (by rw [hy34, hc34]; exact Nat.sub_le_sub_right hroom34 _) hr34); have HC144 := Aside0.mk (show y140.length ≤ c34 from by rw [hy34, hc34]; exact Nat.sub_le_sub_right hroom34 _); clear hr34 hC34 hroom34 hi034 hsz34 hc34; have KY34 := Aside0.mk hy34; have KA34 := Aside0.mk hA34; clear hy34 hA34; replace q34 := eq_true q34))
        refine Cu.handed k1 (by have := HK1.out; omega) (by assumption) ?_ (by kernel_rfl) (by kernel_rfl)
        try dsimp only [Cu.pick, Cu.rep, Cu.nth]
        exact ⟨(y140), (x6_1), (ji26), H', ⟨by have := HK1.out; omega⟩, ⟨Sq.rV HO144.out⟩, ⟨Sq.rR HO_6.out⟩, ⟨Sq.b BK109.out⟩, ⟨Sq.b BK110.out⟩, ⟨Sq.w HB.out⟩⟩
       ·rw [if_neg c27] at H
        exact absurd H (by simp)
     ·rw [if_neg c8] at H
      exact absurd H (by simp)
    ·rw [if_neg c6] at H
     exact absurd H (by simp)
   ·rw [if_neg c5] at H
    have c5b0 : decide (0 < (x1_1.length : Int)) = false := decide_eq_false c5
    have c5b1 : decide (0 < x1_1.length) = false := decide_eq_false (by omega)
    clear c5
    simp only [Option.some.injEq, Prod.mk.injEq] at H
    obtain ⟨rfl, rfl, rfl, rfl, rfl, rfl, rfl, rfl, rfl, rfl⟩ := H
    obtain ⟨Ao35, co35, eo35⟩ := Kd.V_slice HO_1.out
    subst eo35
    have b36 := NB109_110.out; have d36 := NB110_109.out
    obtain ⟨z37_0, z37_1, z37_2, z37_3, z37_4, z37_5, z37_6, z37_7, z37_8⟩ := Sq.c9 BK109.out
    obtain ⟨y37_0, y37_1, y37_2, y37_3, y37_4, y37_5, y37_6, y37_7, y37_8⟩ := Sq.f9 BK109.out
    obtain ⟨z38_0, z38_1, z38_2, z38_3, z38_4, z38_5, z38_6, z38_7, z38_8⟩ := Sq.c9 BK110.out
    obtain ⟨y38_0, y38_1, y38_2, y38_3, y38_4, y38_5, y38_6, y38_7, y38_8⟩ := Sq.f9 BK110.out
    go_wp2
    refine bodyPost_ret (results_ct rfl _ _ gb110 24 #[.int .i64 a0_0, .int .i64 a0_1, .bool a0_2, .int .i64 a0_3, .int .i64 4, .int .i64 a0_5, .bool a0_6, .int .i64 0, .int .i64 x110008_1] (0, 0) _ rfl (Sq.B BK110.out) Try.underlying24 rfl (by kernel_rfl)) rfl ?_
    exact ⟨_, by first | rfl | (simp [errW_none, errW_some] <;> rfl) | (simp [*, errW_none, errW_some] <;> rfl), by (with_reducible repeat (first | apply Kd.R_alloc | apply Kd.R_drewN | apply Kd.R_drew)); exact Kd.R_mono (Kd.R_far (p := ⟨gb110, 8, none⟩) (Kd.R_far (p := ⟨gb110, 7, none⟩) (Kd.R_far (p := ⟨gb110, 6, none⟩) (Kd.R_far (p := ⟨gb110, 5, none⟩) (Kd.R_far (p := ⟨gb110, 4, none⟩) (Kd.R_far (p := ⟨gb110, 3, none⟩) (Kd.R_far (p := ⟨gb110, 2, none⟩) (Kd.R_far (p := ⟨gb110, 1, none⟩) (Kd.R_far (p := ⟨gb110, 0, none⟩) (Kd.R_far (p := ⟨gb109, 7, none⟩) (Kd.R_far (p := ⟨gb109, 4, none⟩) (Kd.R_types (Kd.R_types HO_6.out BK109.out (by decide)) BK110.out (by decide)) (fun _ hk => hk.1.2) (.int .i64 4)) (fun _ hk => hk.1.2) (.int .i64 0)) (fun _ hk => hk.2) (.int .i64 a0_0)) (fun _ hk => hk.2) (.int .i64 a0_1)) (fun _ hk => hk.2) (.bool a0_2)) (fun _ hk => hk.2) (.int .i64 a0_3)) (fun _ hk => hk.2) (.int .i64 4)) (fun _ hk => hk.2) (.int .i64 a0_5)) (fun _ hk => hk.2) (.bool a0_6)) (fun _ hk => hk.2) (.int .i64 0)) (fun _ hk => hk.2) (.int .i64 x110008_1)) (fun _ hk => hk.1.1), Sq.w HB.out⟩

-- NOT PRINTED: function 58 (drv_becomes)

/-! ### drv_again: function 59 -/
def drv_again.f (a0_0 : Int) (a0_1 : Int) (a0_2 : Bool) (a0_3 : Int) (a0_4 : Int) (a0_5 : Int) (a0_6 : Bool) (a0_7 : Int) (a0_8 : Int) (l1 : List Int) : Option (Int × Int × Bool × Int × Int × Int × Bool × Int × Int × (List (S55))) := if a0_2 = true then (some (a0_0, a0_1, a0_2, a0_3, 1, a0_5, true, a0_7, a0_8, ([] : List (S55)))) else (some (a0_0, a0_1, a0_2, a0_3, 6, a0_5, true, a0_7, a0_8, ([] : List (S55))))
set_option maxHeartbeats 8000000 in
set_option maxRecDepth 100000 in
theorem drv_again.calls (a0_0 : Int) (a0_1 : Int) (a0_2 : Bool) (a0_3 : Int) (a0_4 : Int) (a0_5 : Int) (a0_6 : Bool) (a0_7 : Int) (a0_8 : Int) (A1 : Option Addr) (c1 : Nat) (l1 : List Int) (r1 : Int) (r2 : Int) (r3 : Bool) (r4 : Int) (r5 : Int) (r6 : Int) (r7 : Bool) (r8 : Int) (r9 : Int) (r10 : List (S55)) (w : World) (hr1 : Kd.C (Kd.int .u8) w A1 l1.length l1) (hc1 : l1.length ≤ c1) (h : drv_again.f a0_0 a0_1 a0_2 a0_3 a0_4 a0_5 a0_6 a0_7 a0_8 l1 = some (r1, r2, r3, r4, r5, r6, r7, r8, r9, r10)) :
  Calls Try.prog 59 #[.agg #[.int .i64 a0_0, .int .i64 a0_1, .bool a0_2, .int .i64 a0_3, .int .i64 a0_4, .int .i64 a0_5, .bool a0_6, .int .i64 a0_7, .int .i64 a0_8], .slice A1 l1.length c1] w fun e w' => ∃ v9_ : Value, e = .returned (.tuple #[.agg #[.int .i64 r1, .int .i64 r2, .bool r3, .int .i64 r4, .int .i64 r5, .int .i64 r6, .bool r7, .int .i64 r8, .int .i64 r9], v9_]) ∧ Kd.R k55 55 w' w.heap.size (fun _ => True) v9_ r10 ∧ Below w.heap.size w w' := by
 have hu24 := Try.underlying24
 have HR1 := Aside0.mk hr1
 have HC1 := Aside0.mk hc1
 clear hr1 hc1
 have HB := Aside0.mk (Below.refl w.heap.size w)
 have H : (if a0_2 = true then (some (a0_0, a0_1, a0_2, a0_3, 1, a0_5, true, a0_7, a0_8, ([] : List (S55)))) else (some (a0_0, a0_1, a0_2, a0_3, 6, a0_5, true, a0_7, a0_8, ([] : List (S55))))) = some (r1, r2, r3, r4, r5, r6, r7, r8, r9, r10) := h
 clear h
 by_cases c3 : a0_2 = true
 ·subst c3
  have H1 : (some (a0_0, a0_1, true, a0_3, 1, a0_5, true, a0_7, a0_8, ([] : List (S55)))) = some (r1, r2, r3, r4, r5, r6, r7, r8, r9, r10) := by rw [if_pos rfl] at H; exact H
  clear H
  have H := H1
  clear H1
  simp only [Option.some.injEq, Prod.mk.injEq] at H
  obtain ⟨rfl, rfl, rfl, rfl, rfl, rfl, rfl, rfl, rfl, rfl⟩ := H
  go_enter Try.func59, Try.ntmps59
  go_wp2_with (first | ((with_reducible refine gate_dst (N := 2) rfl ?_); refine box_event ?hg (N := 2) ?hd (cs := #[.int .i64 a0_0, .int .i64 a0_1, .bool true, .int .i64 a0_3, .int .i64 a0_4, .int .i64 a0_5, .bool a0_6, .int .i64 a0_7, .int .i64 a0_8]) (t := 24) ?hr ?_; (case hd => rfl); (case hg => rfl); (case hr => first | (go_simp; done) | (go_simp; rfl)); intro gb145 hg w4 hbox hb; have BK145 := Aside0.mk hbox; have GW145 := Sq.ge hg HB; have GE145 := Sq.ge hg HB; replace HB := Sq.sw HB hb; clear hb hbox hg) | ((with_reducible refine gate_dst (N := 4) rfl ?_); refine box_event ?hg (N := 4) ?hd (cs := #[.int .i64 0, .int .i64 0, .bool false, .int .i64 0, .int .i64 0, .int .i64 0, .bool false, .int .i64 0, .int .i64 0]) (t := 24) ?hr ?_; (case hd => rfl); (case hg => rfl); (case hr => first | (go_simp; done) | (go_simp; rfl)); intro gb146 hg w5 hbox hb; have BK146 := Aside0.mk hbox; have GW146 := Sq.ge hg HB; have GE146 := Sq.ge hg HB; obtain ⟨NB145_146, NB146_145⟩ := Sq.np hg BK145; replace BK145 := Sq.sb BK145 hb; replace HB := Sq.sw HB hb; clear hb hbox hg; have b6 := NB145_146.out; have d6 := NB146_145.out; obtain ⟨z7_0, z7_1, z7_2, z7_3, z7_4, z7_5, z7_6, z7_7, z7_8⟩ := Sq.c9 BK145.out; obtain ⟨y7_0, y7_1, y7_2, y7_3, y7_4, y7_5, y7_6, y7_7, y7_8⟩ := Sq.f9 BK145.out; obtain ⟨z8_0, z8_1, z8_2, z8_3, z8_4, z8_5, z8_6, z8_7, z8_8⟩ := Sq.c9 BK146.out; obtain ⟨y8_0, y8_1, y8_2, y8_3, y8_4, y8_5, y8_6, y8_7, y8_8⟩ := Sq.f9 BK146.out))
  refine bodyPost_ret (results_ct rfl _ _ gb146 24 #[.int .i64 a0_0, .int .i64 a0_1, .bool true, .int .i64 a0_3, .int .i64 1, .int .i64 a0_5, .bool true, .int .i64 a0_7, .int .i64 a0_8] (0, 0) _ rfl (Sq.B BK146.out) Try.underlying24 rfl (by kernel_rfl)) rfl ?_
  exact ⟨_, by first | rfl | (simp [errW_none, errW_some] <;> rfl) | (simp [*, errW_none, errW_some] <;> rfl), by first | exact Kd.R_nil _ _ _ _ _ | exact Kd.N_nil _ _ _ _ _ | exact Kd.V_nil _ _ _ _ _ | exact Kd.Q_nil _ _ _ _ _ | exact Kd.S_nil _ _ _ _ _, Sq.w HB.out⟩
 ·replace c3 := Bool.eq_false_iff.mpr c3
  subst c3
  have H1 : (some (a0_0, a0_1, false, a0_3, 6, a0_5, true, a0_7, a0_8, ([] : List (S55)))) = some (r1, r2, r3, r4, r5, r6, r7, r8, r9, r10) := by rw [if_neg (show ¬ (false = true) by decide)] at H; exact H
  clear H
  have H := H1
  clear H1
  simp only [Option.some.injEq, Prod.mk.injEq] at H
  obtain ⟨rfl, rfl, rfl, rfl, rfl, rfl, rfl, rfl, rfl, rfl⟩ := H
  go_enter Try.func59, Try.ntmps59
  go_wp2_with (first | ((with_reducible refine gate_dst (N := 2) rfl ?_); refine box_event ?hg (N := 2) ?hd (cs := #[.int .i64 a0_0, .int .i64 a0_1, .bool false, .int .i64 a0_3, .int .i64 a0_4, .int .i64 a0_5, .bool a0_6, .int .i64 a0_7, .int .i64 a0_8]) (t := 24) ?hr ?_; (case hd => rfl); (case hg => rfl); (case hr => first | (go_simp; done) | (go_simp; rfl)); intro gb145 hg w9 hbox hb; have BK145 := Aside0.mk hbox; have GW145 := Sq.ge hg HB; have GE145 := Sq.ge hg HB; replace HB := Sq.sw HB hb; clear hb hbox hg) | ((with_reducible refine gate_dst (N := 4) rfl ?_); refine box_event ?hg (N := 4) ?hd (cs := #[.int .i64 0, .int .i64 0, .bool false, .int .i64 0, .int .i64 0, .int .i64 0, .bool false, .int .i64 0, .int .i64 0]) (t := 24) ?hr ?_; (case hd => rfl); (case hg => rfl); (case hr => first | (go_simp; done) | (go_simp; rfl)); intro gb146 hg w10 hbox hb; have BK146 := Aside0.mk hbox; have GW146 := Sq.ge hg HB; have GE146 := Sq.ge hg HB; obtain ⟨NB145_146, NB146_145⟩ := Sq.np hg BK145; replace BK145 := Sq.sb BK145 hb; replace HB := Sq.sw HB hb; clear hb hbox hg; have b11 := NB145_146.out; have d11 := NB146_145.out; obtain ⟨z12_0, z12_1, z12_2, z12_3, z12_4, z12_5, z12_6, z12_7, z12_8⟩ := Sq.c9 BK145.out; obtain ⟨y12_0, y12_1, y12_2, y12_3, y12_4, y12_5, y12_6, y12_7, y12_8⟩ := Sq.f9 BK145.out; obtain ⟨z13_0, z13_1, z13_2, z13_3, z13_4, z13_5, z13_6, z13_7, z13_8⟩ := Sq.c9 BK146.out; obtain ⟨y13_0, y13_1, y13_2, y13_3, y13_4, y13_5, y13_6, y13_7, y13_8⟩ := Sq.f9 BK146.out))
  refine bodyPost_ret (results_ct rfl _ _ gb146 24 #[.int .i64 a0_0, .int .i64 a0_1, .bool false, .int .i64 a0_3, .int .i64 6, .int .i64 a0_5, .bool true, .int .i64 a0_7, .int .i64 a0_8] (0, 0) _ rfl (Sq.B BK146.out) Try.underlying24 rfl (by kernel_rfl)) rfl ?_
  exact ⟨_, by first | rfl | (simp [errW_none, errW_some] <;> rfl) | (simp [*, errW_none, errW_some] <;> rfl), by first | exact Kd.R_nil _ _ _ _ _ | exact Kd.N_nil _ _ _ _ _ | exact Kd.V_nil _ _ _ _ _ | exact Kd.Q_nil _ _ _ _ _ | exact Kd.S_nil _ _ _ _ _, Sq.w HB.out⟩

-- NOT PRINTED: function 33 (drv_table)

/-! ### drv_Next: function 9 -/
-- given
def drv_Next.f (a0_0 : Int) (a0_1 : Int) (a0_2 : Bool) (a0_3 : Int) (a0_4 : Int) (a0_5 : Int) (a0_6 : Bool) (a0_7 : Int) (a0_8 : Int) : Option (Int × Int × List Int × Int × Bool × Int) :=
  some (if Dr.goodD a0_0 a0_1 a0_3 a0_4 a0_5 a0_7 a0_8 = true then
    (if a0_4 = 1 then (a0_0, 0, [], 1, true, 0) else if a0_4 = 2 then (a0_0, 2, [a0_3 % 256], 0, true, 0) else if a0_4 = 3 then (a0_0, 1, [1], 0, true, 0) else if a0_4 = 4 then (a0_0, 3, [], 1, true, 0)
     else if a0_4 = 5 then (a0_0, 4, [], 8 * a0_7, true, 0) else if a0_4 = 6 then (a0_0, 1, [0], 0, true, 0) else if a0_4 = 7 then (a0_0, 5, [182], 0, true, 0) else (0, 0, [], 0, false, 0))
    else (0, 0, [], 0, false, 1))
theorem drv_slok {w w' : World} {sv : Value} {l : List Int} (h : Dr.SlOk w w' sv l) : Kd.R (Kd.int .u8) 5 w' w.heap.size (fun _ => True) sv l := by
  rcases h with ⟨rfl, rfl⟩ | ⟨k, v, rfl, rfl, hk, hh⟩
  · exact Kd.R_nil _ _ _ _ _
  · exact Kd.R_of_own ⟨rfl, .inr ⟨k, 1, #[.int .u8 v], rfl, hk, hh, Nat.le_refl _, by unfold maxLen; omega, rfl, rfl⟩⟩ (fun _ _ => trivial)
theorem drv_nextp {w : World} {r1 r2 : Int} {l : List Int} {r4 : Int} {t : Bool} {er : Int} {P : Program} {f : Nat} {A : Array Value} (h : Calls P f A w (Dr.NextP w r1 r2 l r4 t er)) :
    Calls P f A w fun e w' => ∃ v2_ : Value, e = .returned (.tuple #[.agg #[.int .i64 r1, .int .i64 r2, v2_, .int .i64 r4], .bool t, .int .i64 er]) ∧ Kd.R (Kd.int .u8) 5 w' w.heap.size (fun _ => True) v2_ l ∧ Below w.heap.size w w' :=
  h.mono fun e w' ⟨sv, h1, h2, h3⟩ => ⟨sv, h1, drv_slok h2, h3⟩
theorem drv_Next.calls (a0_0 : Int) (a0_1 : Int) (a0_2 : Bool) (a0_3 : Int) (a0_4 : Int) (a0_5 : Int) (a0_6 : Bool) (a0_7 : Int) (a0_8 : Int) (r1 : Int) (r2 : Int) (r3 : List Int) (r4 : Int) (r5 : Bool) (r6 : Int) (w : World) (h : drv_Next.f a0_0 a0_1 a0_2 a0_3 a0_4 a0_5 a0_6 a0_7 a0_8 = some (r1, r2, r3, r4, r5, r6)) :
    Calls Try.prog 9 #[.agg #[.int .i64 a0_0, .int .i64 a0_1, .bool a0_2, .int .i64 a0_3, .int .i64 a0_4, .int .i64 a0_5, .bool a0_6, .int .i64 a0_7, .int .i64 a0_8]] w fun e w' => ∃ v2_ : Value, e = .returned (.tuple #[.agg #[.int .i64 r1, .int .i64 r2, v2_, .int .i64 r4], .bool r5, .int .i64 r6]) ∧ Kd.R (Kd.int .u8) 5 w' w.heap.size (fun _ => True) v2_ r3 ∧ Below w.heap.size w w' := by
  unfold drv_Next.f at h
  have h' := Option.some.inj h
  clear h
  by_cases hg : Dr.goodD a0_0 a0_1 a0_3 a0_4 a0_5 a0_7 a0_8 = true
  · rw [if_pos hg] at h'
    have hc := Dr.goodD_iff hg
    have hcase : a0_4 = 0 ∨ a0_4 = 1 ∨ a0_4 = 2 ∨ a0_4 = 3 ∨ a0_4 = 4 ∨ a0_4 = 5 ∨ a0_4 = 6 ∨ a0_4 = 7 ∨ a0_4 = 8 := by omega
    clear hc
    rcases hcase with rfl | rfl | rfl | rfl | rfl | rfl | rfl | rfl | rfl
    · cases h'; exact drv_nextp (Dr.next_none0 _ _ _ _ _ _ _ _ w hg)
    · cases h'; exact drv_nextp (Dr.next_1 _ _ _ _ _ _ _ _ w hg)
    · cases h'; exact drv_nextp (Dr.next_2 _ _ _ _ _ _ _ _ w hg)
    · cases h'; exact drv_nextp (Dr.next_3 _ _ _ _ _ _ _ _ w hg)
    · cases h'; exact drv_nextp (Dr.next_4 _ _ _ _ _ _ _ _ w hg)
    · cases h'; exact drv_nextp (Dr.next_5 _ _ _ _ _ _ _ _ w hg)
    · cases h'; exact drv_nextp (Dr.next_6 _ _ _ _ _ _ _ _ w hg)
    · cases h'; exact drv_nextp (Dr.next_7 _ _ _ _ _ _ _ _ w hg)
    · cases h'; exact drv_nextp (Dr.next_none8 _ _ _ _ _ _ _ _ w hg)
  · rw [if_neg hg] at h'
    cases h'
    exact drv_nextp (Dr.next_bad _ _ _ _ _ _ _ _ _ w (Bool.eq_false_iff.2 hg))

end Go.Proofs.Ytnlmbejkemkkoaa.PDrvExact
