import Derived.Test.YtnlmbejkemkkoaaPDrvExactx0
import Derived.Test.YtnlmbejkemkkoaaPDrvExactx3
import Derived.Test.YtnlmbejkemkkoaaPDrvExactx5
namespace Go.Proofs.Ytnlmbejkemkkoaa.PDrvExact
open Go.RowKit Go.Proofs.YtnlmbejkemkkoaaW.PrintWords Go.Proofs.YtnlmbejkemkkoaaW.PrintLast Go.Proofs.YtnlmbejkemkkoaaW.PrintMore
attribute [local go_sem] max2_int min2_int max_two min_two max_three min_three max_four min_four   -- for this text's walks alone
set_option linter.unusedVariables false
set_option linter.unusedSimpArgs false

/-! ### drv_bad: function 36 -/
def drv_bad.f (a0_0 : Int) (a0_1 : Int) (a0_2 : Bool) (a0_3 : Int) (a0_4 : Int) (a0_5 : Int) (a0_6 : Bool) (a0_7 : Int) (a0_8 : Int) : Option (Int × Int × Bool × Int × Int × Int × Bool × Int × Int × Bool) := if a0_4 = 7 then (some (a0_0, a0_1, a0_2, a0_3, 8, 0, a0_6, 0, a0_8, (8 == 8))) else (if (wrap64 (a0_5 + 1)) = 3 then (if a0_6 = true then (some (a0_0, a0_1, a0_2, a0_3, 8, 0, a0_6, 0, a0_8, (8 == 8))) else (some (a0_0, a0_1, a0_2, a0_3, 7, 0, a0_6, 0, a0_8, (7 == 8)))) else (some (a0_0, a0_1, a0_2, a0_3, a0_4, wrap64 (a0_5 + 1), a0_6, a0_7, a0_8, false)))
set_option maxHeartbeats 8000000 in
set_option maxRecDepth 100000 in
theorem drv_bad.calls (a0_0 : Int) (a0_1 : Int) (a0_2 : Bool) (a0_3 : Int) (a0_4 : Int) (a0_5 : Int) (a0_6 : Bool) (a0_7 : Int) (a0_8 : Int) (r1 : Int) (r2 : Int) (r3 : Bool) (r4 : Int) (r5 : Int) (r6 : Int) (r7 : Bool) (r8 : Int) (r9 : Int) (r10 : Bool) (w : World) (h : drv_bad.f a0_0 a0_1 a0_2 a0_3 a0_4 a0_5 a0_6 a0_7 a0_8 = some (r1, r2, r3, r4, r5, r6, r7, r8, r9, r10)) :
  Calls Try.prog 36 #[.agg #[.int .i64 a0_0, .int .i64 a0_1, .bool a0_2, .int .i64 a0_3, .int .i64 a0_4, .int .i64 a0_5, .bool a0_6, .int .i64 a0_7, .int .i64 a0_8]] w fun e w' => e = .returned (.tuple #[.agg #[.int .i64 r1, .int .i64 r2, .bool r3, .int .i64 r4, .int .i64 r5, .int .i64 r6, .bool r7, .int .i64 r8, .int .i64 r9], .bool r10]) ∧ Below w.heap.size w w' := by
 have hu24 := Try.underlying24
 have HB := Aside0.mk (Below.refl w.heap.size w)
 have H : (if a0_4 = 7 then (some (a0_0, a0_1, a0_2, a0_3, 8, 0, a0_6, 0, a0_8, (8 == 8))) else (if (wrap64 (a0_5 + 1)) = 3 then (if a0_6 = true then (some (a0_0, a0_1, a0_2, a0_3, 8, 0, a0_6, 0, a0_8, (8 == 8))) else (some (a0_0, a0_1, a0_2, a0_3, 7, 0, a0_6, 0, a0_8, (7 == 8)))) else (some (a0_0, a0_1, a0_2, a0_3, a0_4, wrap64 (a0_5 + 1), a0_6, a0_7, a0_8, false)))) = some (r1, r2, r3, r4, r5, r6, r7, r8, r9, r10) := h
 clear h
 by_cases c2 : a0_4 = 7
 ·rw [if_pos c2] at H
  have c2b0 : (a0_4 == 7) = true := beq_iff_eq.mpr c2
  have c2b1 : (a0_4 != 7) = false := bne_eq_false_iff_eq.mpr c2
  clear c2
  simp only [Option.some.injEq, Prod.mk.injEq] at H
  obtain ⟨rfl, rfl, rfl, rfl, rfl, rfl, rfl, rfl, rfl, rfl⟩ := H
  go_enter Try.func36, Try.ntmps36
  try go_wp2_with (first | ((with_reducible refine gate_dst (N := 1) rfl ?_); refine box_event ?hg (N := 1) ?hd (cs := #[.int .i64 a0_0, .int .i64 a0_1, .bool a0_2, .int .i64 a0_3, .int .i64 a0_4, .int .i64 a0_5, .bool a0_6, .int .i64 a0_7, .int .i64 a0_8]) (t := 24) ?hr ?_; (case hd => rfl); (case hg => rfl); (case hr => first | (go_simp; done) | (go_simp; rfl)); intro gb164 hg w3 hbox hb; have BK164 := Aside0.mk hbox; have GW164 := Sq.ge hg HB; have GE164 := Sq.ge hg HB; replace HB := Sq.sw HB hb; clear hb hbox hg) | ((with_reducible refine gate_dst (N := 2) rfl ?_); refine box_event ?hg (N := 2) ?hd (cs := #[.int .i64 0, .int .i64 0, .bool false, .int .i64 0, .int .i64 0, .int .i64 0, .bool false, .int .i64 0, .int .i64 0]) (t := 24) ?hr ?_; (case hd => rfl); (case hg => rfl); (case hr => first | (go_simp; done) | (go_simp; rfl)); intro gb165 hg w4 hbox hb; have BK165 := Aside0.mk hbox; have GW165 := Sq.ge hg HB; have GE165 := Sq.ge hg HB; obtain ⟨NB164_165, NB165_164⟩ := Sq.np hg BK164; replace BK164 := Sq.sb BK164 hb; replace HB := Sq.sw HB hb; clear hb hbox hg; have b5 := NB164_165.out; have d5 := NB165_164.out; obtain ⟨z6_0, z6_1, z6_2, z6_3, z6_4, z6_5, z6_6, z6_7, z6_8⟩ := Sq.c9 BK164.out; obtain ⟨y6_0, y6_1, y6_2, y6_3, y6_4, y6_5, y6_6, y6_7, y6_8⟩ := Sq.f9 BK164.out))
  have n0_ : Aside0 (((((w4.setCell ⟨gb164, 5, none⟩ (.int .i64 (wrap64 (a0_5 + 1)))).setCell ⟨gb164, 4, none⟩ (.int .i64 8)).setCell ⟨gb164, 5, none⟩ (.int .i64 0)).setCell ⟨gb164, 7, none⟩ (.int .i64 0)).heap[gb164]? = some (.cells #[.int .i64 a0_0, .int .i64 a0_1, .bool a0_2, .int .i64 a0_3, .int .i64 8, .int .i64 0, .bool a0_6, .int .i64 0, .int .i64 a0_8] 24 (0, 0))) := ⟨Sq.B BK164.out⟩
  have n1_ : Aside0 (((((w4.setCell ⟨gb164, 5, none⟩ (.int .i64 (wrap64 (a0_5 + 1)))).setCell ⟨gb164, 4, none⟩ (.int .i64 8)).setCell ⟨gb164, 5, none⟩ (.int .i64 0)).setCell ⟨gb164, 7, none⟩ (.int .i64 0)).heap[gb165]? = some (.cells #[.int .i64 0, .int .i64 0, .bool false, .int .i64 0, .int .i64 0, .int .i64 0, .bool false, .int .i64 0, .int .i64 0] 24 (0, 0))) := ⟨Sq.F BK165.out⟩
  have n2_ : Aside0 (Below w.heap.size w ((((w4.setCell ⟨gb164, 5, none⟩ (.int .i64 (wrap64 (a0_5 + 1)))).setCell ⟨gb164, 4, none⟩ (.int .i64 8)).setCell ⟨gb164, 5, none⟩ (.int .i64 0)).setCell ⟨gb164, 7, none⟩ (.int .i64 0))) := ⟨Sq.w HB.out⟩
  (try clear BK164)
  (try clear BK165)
  (try clear HB)
  generalize ((((w4.setCell ⟨gb164, 5, none⟩ (.int .i64 (wrap64 (a0_5 + 1)))).setCell ⟨gb164, 4, none⟩ (.int .i64 8)).setCell ⟨gb164, 5, none⟩ (.int .i64 0)).setCell ⟨gb164, 7, none⟩ (.int .i64 0)) = w7 at n0_ n1_ n2_ ⊢
  have BK164 := n0_; have BK165 := n1_; have HB := n2_; clear n0_ n1_ n2_
  (try (rw [drewN_self w7]; generalize hq_ : World.drewN w7 _ = w7; have n0_ := Aside0.mk (blk_at hq_ BK164.out); have n1_ := Aside0.mk (blk_at hq_ BK165.out); have n2_ := Aside0.mk (below_at hq_ HB.out); clear hq_ BK164 BK165 HB; have BK164 := n0_; have BK165 := n1_; have HB := n2_; clear n0_ n1_ n2_))
  replace BK164 := Aside0.mk (blk_drew BK164.out); replace BK165 := Aside0.mk (blk_drew BK165.out); replace HB := Aside0.mk (below_drew1 HB.out)
  refine start_ (n := 6) (S := fun w' => w'.cell? ⟨gb164, 0, none⟩ = some (.int .i64 a0_0) ∧ w'.cell? ⟨gb164, 1, none⟩ = some (.int .i64 a0_1) ∧ w'.cell? ⟨gb164, 2, none⟩ = some (.bool a0_2) ∧ w'.cell? ⟨gb164, 3, none⟩ = some (.int .i64 a0_3) ∧ w'.cell? ⟨gb164, 4, none⟩ = some (.int .i64 8) ∧ w'.cell? ⟨gb164, 5, none⟩ = some (.int .i64 0) ∧ w'.cell? ⟨gb164, 6, none⟩ = some (.bool a0_6) ∧ w'.cell? ⟨gb164, 7, none⟩ = some (.int .i64 0) ∧ w'.cell? ⟨gb164, 8, none⟩ = some (.int .i64 a0_8)) (ds := []) #[false, false, false, false, false, false] (by kernel_rfl) rfl rfl ⟨(blk_cell BK164.out 0).trans rfl, (blk_cell BK164.out 1).trans rfl, (blk_cell BK164.out 2).trans rfl, (blk_cell BK164.out 3).trans rfl, (blk_cell BK164.out 4).trans rfl, (blk_cell BK164.out 5).trans rfl, (blk_cell BK164.out 6).trans rfl, (blk_cell BK164.out 7).trans rfl, (blk_cell BK164.out 8).trans rfl⟩ (fun hHeld => ?_)
  generalize w7.drew = w8 at BK164 BK165 HB hHeld ⊢
  refine pure_ (i := 1) (N := some 23) (v := ?_) (a' := ?_) #[false, true, false, false, false, false] rfl rfl (by kernel_rfl) (fun _ _ _ h => h) (Or.inl ⟨by rfl, ?_⟩) ?_ ?_
  rotate_left
  ·intro w'; go_simp; with_reducible rfl
  rotate_left
  ·simp only [Act.put, List.setIfInBounds_toArray, List.set_cons_zero, List.set_cons_succ, i64_w, i32_w]; rfl
  refine take_ (i := 0) (N := some 22) (v := ?_) (a' := ?_) #[true, true, false, false, false, false] rfl rfl (by kernel_rfl) (fun _ _ _ h => h) (Or.inl ⟨by rfl, ?_⟩) hHeld ?_ ?_
  rotate_left
  ·rintro w' ⟨s0, s1, s2, s3, s4, s5, s6, s7, s8⟩
   go_simp
   with_reducible rfl
  rotate_left
  ·simp only [Act.put, List.setIfInBounds_toArray, List.set_cons_zero, List.set_cons_succ, i64_w, i32_w]; rfl
  refine take_ (i := 2) (N := some 24) (v := ?_) (a' := ?_) #[true, true, true, false, false, false] rfl rfl (by kernel_rfl) (fun _ _ _ h => h) (Or.inl ⟨by rfl, ?_⟩) hHeld ?_ ?_
  rotate_left
  ·rintro w' ⟨s0, s1, s2, s3, s4, s5, s6, s7, s8⟩
   go_simp
   with_reducible rfl
  rotate_left
  ·simp only [Act.put, List.setIfInBounds_toArray, List.set_cons_zero, List.set_cons_succ, i64_w, i32_w]; rfl
  refine pure_ (i := 3) (N := some 25) (v := ?_) (a' := ?_) #[true, true, true, true, false, false] rfl rfl (by kernel_rfl) (fun _ _ _ h => h) (Or.inl ⟨by rfl, ?_⟩) ?_ ?_
  rotate_left
  ·intro w'; go_simp; with_reducible rfl
  rotate_left
  ·simp only [Act.put, List.setIfInBounds_toArray, List.set_cons_zero, List.set_cons_succ, i64_w, i32_w]; rfl
  refine one_ (i := 4) (N := none) #[true, true, true, true, true, false] rfl rfl (by kernel_rfl) (by decide) (fun K hK => ?_)
  have hs9 : w8.cell? ⟨gb165, 0, none⟩ = some (.int .i64 0) := (blk_cell BK165.out 0).trans rfl
  have hfs9 := blk_frozen BK165.out 0
  have hns9_0 := NB164_165.out
  have hms9_0 := NB165_164.out
  have hs10 : w8.cell? ⟨gb165, 1, none⟩ = some (.int .i64 0) := (blk_cell BK165.out 1).trans rfl
  have hfs10 := blk_frozen BK165.out 1
  have hns10_0 := NB164_165.out
  have hms10_0 := NB165_164.out
  have hs11 : w8.cell? ⟨gb165, 2, none⟩ = some (.bool false) := (blk_cell BK165.out 2).trans rfl
  have hfs11 := blk_frozen BK165.out 2
  have hns11_0 := NB164_165.out
  have hms11_0 := NB165_164.out
  have hs12 : w8.cell? ⟨gb165, 3, none⟩ = some (.int .i64 0) := (blk_cell BK165.out 3).trans rfl
  have hfs12 := blk_frozen BK165.out 3
  have hns12_0 := NB164_165.out
  have hms12_0 := NB165_164.out
  have hs13 : w8.cell? ⟨gb165, 4, none⟩ = some (.int .i64 0) := (blk_cell BK165.out 4).trans rfl
  have hfs13 := blk_frozen BK165.out 4
  have hns13_0 := NB164_165.out
  have hms13_0 := NB165_164.out
  have hs14 : w8.cell? ⟨gb165, 5, none⟩ = some (.int .i64 0) := (blk_cell BK165.out 5).trans rfl
  have hfs14 := blk_frozen BK165.out 5
  have hns14_0 := NB164_165.out
  have hms14_0 := NB165_164.out
  have hs15 : w8.cell? ⟨gb165, 6, none⟩ = some (.bool false) := (blk_cell BK165.out 6).trans rfl
  have hfs15 := blk_frozen BK165.out 6
  have hns15_0 := NB164_165.out
  have hms15_0 := NB165_164.out
  have hs16 : w8.cell? ⟨gb165, 7, none⟩ = some (.int .i64 0) := (blk_cell BK165.out 7).trans rfl
  have hfs16 := blk_frozen BK165.out 7
  have hns16_0 := NB164_165.out
  have hms16_0 := NB165_164.out
  have hs17 : w8.cell? ⟨gb165, 8, none⟩ = some (.int .i64 0) := (blk_cell BK165.out 8).trans rfl
  have hfs17 := blk_frozen BK165.out 8
  have hns17_0 := NB164_165.out
  have hms17_0 := NB165_164.out
  refine skip_ (w1 := ?_) (by rfl) rfl ?_ ?_
  rotate_left
  ·go_simp
   rfl
  refine hK.out _ _ (Sq.hold hHeld) (fun hHeld => ?_)
  clear hK K
  refine pure_ (i := 5) (N := some 3) (v := ?_) (a' := ?_) #[true, true, true, true, true, true] rfl rfl (by kernel_rfl) (fun _ _ _ h => h) (Or.inl ⟨by rfl, ?_⟩) ?_ ?_
  rotate_left
  ·intro w'; go_simp; with_reducible rfl
  rotate_left
  ·simp only [Act.put, List.setIfInBounds_toArray, List.set_cons_zero, List.set_cons_succ, i64_w, i32_w]; rfl
  refine done_ (by kernel_rfl) ?_
  try go_wp2
  refine bodyPost_ret (results_ct rfl _ _ gb165 24 #[.int .i64 a0_0, .int .i64 a0_1, .bool a0_2, .int .i64 a0_3, .int .i64 8, .int .i64 0, .bool a0_6, .int .i64 0, .int .i64 a0_8] (0, 0) _ rfl (Sq.B BK165.out) Try.underlying24 rfl (by kernel_rfl)) rfl ?_
  exact ⟨by first | rfl | (simp [errW_none, errW_some] <;> rfl) | (simp [*, errW_none, errW_some] <;> rfl), Sq.w HB.out⟩
 ·rw [if_neg c2] at H
  have c2b0 : (a0_4 == 7) = false := beq_eq_false_iff_ne.mpr c2
  have c2b1 : (a0_4 != 7) = true := bne_iff_ne.mpr c2
  by_cases c18 : (wrap64 (a0_5 + 1)) = 3
  ·rw [if_pos c18] at H
   have c18b0 : ((wrap64 (a0_5 + 1)) == 3) = true := beq_iff_eq.mpr c18
   have c18b1 : ((wrap64 (a0_5 + 1)) != 3) = false := bne_eq_false_iff_eq.mpr c18
   clear c18
   by_cases c19 : a0_6 = true
   ·subst c19
    have H1 : (some (a0_0, a0_1, a0_2, a0_3, 8, 0, true, 0, a0_8, (8 == 8))) = some (r1, r2, r3, r4, r5, r6, r7, r8, r9, r10) := by rw [if_pos rfl] at H; exact H
    clear H
    have H := H1
    clear H1
    simp only [Option.some.injEq, Prod.mk.injEq] at H
    obtain ⟨rfl, rfl, rfl, rfl, rfl, rfl, rfl, rfl, rfl, rfl⟩ := H
    go_enter Try.func36, Try.ntmps36
    try go_wp2_with (first | ((with_reducible refine gate_dst (N := 1) rfl ?_); refine box_event ?hg (N := 1) ?hd (cs := #[.int .i64 a0_0, .int .i64 a0_1, .bool a0_2, .int .i64 a0_3, .int .i64 a0_4, .int .i64 a0_5, .bool true, .int .i64 a0_7, .int .i64 a0_8]) (t := 24) ?hr ?_; (case hd => rfl); (case hg => rfl); (case hr => first | (go_simp; done) | (go_simp; rfl)); intro gb164 hg w20 hbox hb; have BK164 := Aside0.mk hbox; have GW164 := Sq.ge hg HB; have GE164 := Sq.ge hg HB; replace HB := Sq.sw HB hb; clear hb hbox hg) | ((with_reducible refine gate_dst (N := 2) rfl ?_); refine box_event ?hg (N := 2) ?hd (cs := #[.int .i64 0, .int .i64 0, .bool false, .int .i64 0, .int .i64 0, .int .i64 0, .bool false, .int .i64 0, .int .i64 0]) (t := 24) ?hr ?_; (case hd => rfl); (case hg => rfl); (case hr => first | (go_simp; done) | (go_simp; rfl)); intro gb165 hg w21 hbox hb; have BK165 := Aside0.mk hbox; have GW165 := Sq.ge hg HB; have GE165 := Sq.ge hg HB; obtain ⟨NB164_165, NB165_164⟩ := Sq.np hg BK164; replace BK164 := Sq.sb BK164 hb; replace HB := Sq.sw HB hb; clear hb hbox hg; have b22 := NB164_165.out; have d22 := NB165_164.out; obtain ⟨z23_0, z23_1, z23_2, z23_3, z23_4, z23_5, z23_6, z23_7, z23_8⟩ := Sq.c9 BK164.out; obtain ⟨y23_0, y23_1, y23_2, y23_3, y23_4, y23_5, y23_6, y23_7, y23_8⟩ := Sq.f9 BK164.out))
    have n0_ : Aside0 ((((((w21.setCell ⟨gb164, 5, none⟩ (.int .i64 (wrap64 (a0_5 + 1)))).setCell ⟨gb164, 4, none⟩ (.int .i64 7)).setCell ⟨gb164, 4, none⟩ (.int .i64 8)).setCell ⟨gb164, 5, none⟩ (.int .i64 0)).setCell ⟨gb164, 7, none⟩ (.int .i64 0)).heap[gb164]? = some (.cells #[.int .i64 a0_0, .int .i64 a0_1, .bool a0_2, .int .i64 a0_3, .int .i64 8, .int .i64 0, .bool true, .int .i64 0, .int .i64 a0_8] 24 (0, 0))) := ⟨Sq.B BK164.out⟩
    have n1_ : Aside0 ((((((w21.setCell ⟨gb164, 5, none⟩ (.int .i64 (wrap64 (a0_5 + 1)))).setCell ⟨gb164, 4, none⟩ (.int .i64 7)).setCell ⟨gb164, 4, none⟩ (.int .i64 8)).setCell ⟨gb164, 5, none⟩ (.int .i64 0)).setCell ⟨gb164, 7, none⟩ (.int .i64 0)).heap[gb165]? = some (.cells #[.int .i64 0, .int .i64 0, .bool false, .int .i64 0, .int .i64 0, .int .i64 0, .bool false, .int .i64 0, .int .i64 0] 24 (0, 0))) := ⟨Sq.F BK165.out⟩
    have n2_ : Aside0 (Below w.heap.size w (((((w21.setCell ⟨gb164, 5, none⟩ (.int .i64 (wrap64 (a0_5 + 1)))).setCell ⟨gb164, 4, none⟩ (.int .i64 7)).setCell ⟨gb164, 4, none⟩ (.int .i64 8)).setCell ⟨gb164, 5, none⟩ (.int .i64 0)).setCell ⟨gb164, 7, none⟩ (.int .i64 0))) := ⟨Sq.w HB.out⟩
    (try clear BK164)
    (try clear BK165)
    (try clear HB)
    generalize (((((w21.setCell ⟨gb164, 5, none⟩ (.int .i64 (wrap64 (a0_5 + 1)))).setCell ⟨gb164, 4, none⟩ (.int .i64 7)).setCell ⟨gb164, 4, none⟩ (.int .i64 8)).setCell ⟨gb164, 5, none⟩ (.int .i64 0)).setCell ⟨gb164, 7, none⟩ (.int .i64 0)) = w24 at n0_ n1_ n2_ ⊢
    have BK164 := n0_; have BK165 := n1_; have HB := n2_; clear n0_ n1_ n2_
    (try (rw [drewN_self w24]; generalize hq_ : World.drewN w24 _ = w24; have n0_ := Aside0.mk (blk_at hq_ BK164.out); have n1_ := Aside0.mk (blk_at hq_ BK165.out); have n2_ := Aside0.mk (below_at hq_ HB.out); clear hq_ BK164 BK165 HB; have BK164 := n0_; have BK165 := n1_; have HB := n2_; clear n0_ n1_ n2_))
    replace BK164 := Aside0.mk (blk_drew BK164.out); replace BK165 := Aside0.mk (blk_drew BK165.out); replace HB := Aside0.mk (below_drew1 HB.out)
    refine start_ (n := 6) (S := fun w' => w'.cell? ⟨gb164, 0, none⟩ = some (.int .i64 a0_0) ∧ w'.cell? ⟨gb164, 1, none⟩ = some (.int .i64 a0_1) ∧ w'.cell? ⟨gb164, 2, none⟩ = some (.bool a0_2) ∧ w'.cell? ⟨gb164, 3, none⟩ = some (.int .i64 a0_3) ∧ w'.cell? ⟨gb164, 4, none⟩ = some (.int .i64 8) ∧ w'.cell? ⟨gb164, 5, none⟩ = some (.int .i64 0) ∧ w'.cell? ⟨gb164, 6, none⟩ = some (.bool true) ∧ w'.cell? ⟨gb164, 7, none⟩ = some (.int .i64 0) ∧ w'.cell? ⟨gb164, 8, none⟩ = some (.int .i64 a0_8)) (ds := []) #[false, false, false, false, false, false] (by kernel_rfl) rfl rfl ⟨(blk_cell BK164.out 0).trans rfl, (blk_cell BK164.out 1).trans rfl, (blk_cell BK164.out 2).trans rfl, (blk_cell BK164.out 3).trans rfl, (blk_cell BK164.out 4).trans rfl, (blk_cell BK164.out 5).trans rfl, (blk_cell BK164.out 6).trans rfl, (blk_cell BK164.out 7).trans rfl, (blk_cell BK164.out 8).trans rfl⟩ (fun hHeld => ?_)
    generalize w24.drew = w25 at BK164 BK165 HB hHeld ⊢
    refine pure_ (i := 1) (N := some 23) (v := ?_) (a' := ?_) #[false, true, false, false, false, false] rfl rfl (by kernel_rfl) (fun _ _ _ h => h) (Or.inl ⟨by rfl, ?_⟩) ?_ ?_
    rotate_left
    ·intro w'; go_simp; with_reducible rfl
    rotate_left
    ·simp only [Act.put, List.setIfInBounds_toArray, List.set_cons_zero, List.set_cons_succ, i64_w, i32_w]; rfl
    refine take_ (i := 0) (N := some 22) (v := ?_) (a' := ?_) #[true, true, false, false, false, false] rfl rfl (by kernel_rfl) (fun _ _ _ h => h) (Or.inl ⟨by rfl, ?_⟩) hHeld ?_ ?_
    rotate_left
    ·rintro w' ⟨s0, s1, s2, s3, s4, s5, s6, s7, s8⟩
     go_simp
     with_reducible rfl
    rotate_left
    ·simp only [Act.put, List.setIfInBounds_toArray, List.set_cons_zero, List.set_cons_succ, i64_w, i32_w]; rfl
    refine take_ (i := 2) (N := some 24) (v := ?_) (a' := ?_) #[true, true, true, false, false, false] rfl rfl (by kernel_rfl) (fun _ _ _ h => h) (Or.inl ⟨by rfl, ?_⟩) hHeld ?_ ?_
    rotate_left
    ·rintro w' ⟨s0, s1, s2, s3, s4, s5, s6, s7, s8⟩
     go_simp
     with_reducible rfl
    rotate_left
    ·simp only [Act.put, List.setIfInBounds_toArray, List.set_cons_zero, List.set_cons_succ, i64_w, i32_w]; rfl
    refine pure_ (i := 3) (N := some 25) (v := ?_) (a' := ?_) #[true, true, true, true, false, false] rfl rfl (by kernel_rfl) (fun _ _ _ h => h) (Or.inl ⟨by rfl, ?_⟩) ?_ ?_
    rotate_left
    ·intro w'; go_simp; with_reducible rfl
    rotate_left
    ·simp only [Act.put, List.setIfInBounds_toArray, List.set_cons_zero, List.set_cons_succ, i64_w, i32_w]; rfl
    refine one_ (i := 4) (N := none) #[true, true, true, true, true, false] rfl rfl (by kernel_rfl) (by decide) (fun K hK => ?_)
    have hs26 : w25.cell? ⟨gb165, 0, none⟩ = some (.int .i64 0) := (blk_cell BK165.out 0).trans rfl
    have hfs26 := blk_frozen BK165.out 0
    have hns26_0 := NB164_165.out
    have hms26_0 := NB165_164.out
    have hs27 : w25.cell? ⟨gb165, 1, none⟩ = some (.int .i64 0) := (blk_cell BK165.out 1).trans rfl
    have hfs27 := blk_frozen BK165.out 1
    have hns27_0 := NB164_165.out
    have hms27_0 := NB165_164.out
    have hs28 : w25.cell? ⟨gb165, 2, none⟩ = some (.bool false) := (blk_cell BK165.out 2).trans rfl
    have hfs28 := blk_frozen BK165.out 2
    have hns28_0 := NB164_165.out
    have hms28_0 := NB165_164.out
    have hs29 : w25.cell? ⟨gb165, 3, none⟩ = some (.int .i64 0) := (blk_cell BK165.out 3).trans rfl
    have hfs29 := blk_frozen BK165.out 3
    have hns29_0 := NB164_165.out
    have hms29_0 := NB165_164.out
    have hs30 : w25.cell? ⟨gb165, 4, none⟩ = some (.int .i64 0) := (blk_cell BK165.out 4).trans rfl
    have hfs30 := blk_frozen BK165.out 4
    have hns30_0 := NB164_165.out
    have hms30_0 := NB165_164.out
    have hs31 : w25.cell? ⟨gb165, 5, none⟩ = some (.int .i64 0) := (blk_cell BK165.out 5).trans rfl
    have hfs31 := blk_frozen BK165.out 5
    have hns31_0 := NB164_165.out
    have hms31_0 := NB165_164.out
    have hs32 : w25.cell? ⟨gb165, 6, none⟩ = some (.bool false) := (blk_cell BK165.out 6).trans rfl
    have hfs32 := blk_frozen BK165.out 6
    have hns32_0 := NB164_165.out
    have hms32_0 := NB165_164.out
    have hs33 : w25.cell? ⟨gb165, 7, none⟩ = some (.int .i64 0) := (blk_cell BK165.out 7).trans rfl
    have hfs33 := blk_frozen BK165.out 7
    have hns33_0 := NB164_165.out
    have hms33_0 := NB165_164.out
    have hs34 : w25.cell? ⟨gb165, 8, none⟩ = some (.int .i64 0) := (blk_cell BK165.out 8).trans rfl
    have hfs34 := blk_frozen BK165.out 8
    have hns34_0 := NB164_165.out
    have hms34_0 := NB165_164.out
    refine skip_ (w1 := ?_) (by rfl) rfl ?_ ?_
    rotate_left
    ·go_simp
     rfl
    refine hK.out _ _ (Sq.hold hHeld) (fun hHeld => ?_)
    clear hK K
    refine pure_ (i := 5) (N := some 3) (v := ?_) (a' := ?_) #[true, true, true, true, true, true] rfl rfl (by kernel_rfl) (fun _ _ _ h => h) (Or.inl ⟨by rfl, ?_⟩) ?_ ?_
    rotate_left
    ·intro w'; go_simp; with_reducible rfl
    rotate_left
    ·simp only [Act.put, List.setIfInBounds_toArray, List.set_cons_zero, List.set_cons_succ, i64_w, i32_w]; rfl
    refine done_ (by kernel_rfl) ?_
    try go_wp2
    refine bodyPost_ret (results_ct rfl _ _ gb165 24 #[.int .i64 a0_0, .int .i64 a0_1, .bool a0_2, .int .i64 a0_3, .int .i64 8, .int .i64 0, .bool true, .int .i64 0, .int .i64 a0_8] (0, 0) _ rfl (Sq.B BK165.out) Try.underlying24 rfl (by kernel_rfl)) rfl ?_
    exact ⟨by first | rfl | (simp [errW_none, errW_some] <;> rfl) | (simp [*, errW_none, errW_some] <;> rfl), Sq.w HB.out⟩
   ·replace c19 := Bool.eq_false_iff.mpr c19
    subst c19
    have H1 : (some (a0_0, a0_1, a0_2, a0_3, 7, 0, false, 0, a0_8, (7 == 8))) = some (r1, r2, r3, r4, r5, r6, r7, r8, r9, r10) := by rw [if_neg (show ¬ (false = true) by decide)] at H; exact H
    clear H
    have H := H1
    clear H1
    simp only [Option.some.injEq, Prod.mk.injEq] at H
    obtain ⟨rfl, rfl, rfl, rfl, rfl, rfl, rfl, rfl, rfl, rfl⟩ := H
    go_enter Try.func36, Try.ntmps36
    try go_wp2_with (first | ((with_reducible refine gate_dst (N := 1) rfl ?_); refine box_event ?hg (N := 1) ?hd (cs := #[.int .i64 a0_0, .int .i64 a0_1, .bool a0_2, .int .i64 a0_3, .int .i64 a0_4, .int .i64 a0_5, .bool false, .int .i64 a0_7, .int .i64 a0_8]) (t := 24) ?hr ?_; (case hd => rfl); (case hg => rfl); (case hr => first | (go_simp; done) | (go_simp; rfl)); intro gb164 hg w35 hbox hb; have BK164 := Aside0.mk hbox; have GW164 := Sq.ge hg HB; have GE164 := Sq.ge hg HB; replace HB := Sq.sw HB hb; clear hb hbox hg) | ((with_reducible refine gate_dst (N := 2) rfl ?_); refine box_event ?hg (N := 2) ?hd (cs := #[.int .i64 0, .int .i64 0, .bool false, .int .i64 0, .int .i64 0, .int .i64 0, .bool false, .int .i64 0, .int .i64 0]) (t := 24) ?hr ?_; (case hd => rfl); (case hg => rfl); (case hr => first | (go_simp; done) | (go_simp; rfl)); intro gb165 hg w36 hbox hb; have BK165 := Aside0.mk hbox; have GW165 := Sq.ge hg HB; have GE165 := Sq.ge hg HB; obtain ⟨NB164_165, NB165_164⟩ := Sq.np hg BK164; replace BK164 := Sq.sb BK164 hb; replace HB := Sq.sw HB hb; clear hb hbox hg; have b37 := NB164_165.out; have d37 := NB165_164.out; obtain ⟨z38_0, z38_1, z38_2, z38_3, z38_4, z38_5, z38_6, z38_7, z38_8⟩ := Sq.c9 BK164.out; obtain ⟨y38_0, y38_1, y38_2, y38_3, y38_4, y38_5, y38_6, y38_7, y38_8⟩ := Sq.f9 BK164.out))
    have n0_ : Aside0 (((((w36.setCell ⟨gb164, 5, none⟩ (.int .i64 (wrap64 (a0_5 + 1)))).setCell ⟨gb164, 4, none⟩ (.int .i64 7)).setCell ⟨gb164, 5, none⟩ (.int .i64 0)).setCell ⟨gb164, 7, none⟩ (.int .i64 0)).heap[gb164]? = some (.cells #[.int .i64 a0_0, .int .i64 a0_1, .bool a0_2, .int .i64 a0_3, .int .i64 7, .int .i64 0, .bool false, .int .i64 0, .int .i64 a0_8] 24 (0, 0))) := ⟨Sq.B BK164.out⟩
    have n1_ : Aside0 (((((w36.setCell ⟨gb164, 5, none⟩ (.int .i64 (wrap64 (a0_5 + 1)))).setCell ⟨gb164, 4, none⟩ (.int .i64 7)).setCell ⟨gb164, 5, none⟩ (.int .i64 0)).setCell ⟨gb164, 7, none⟩ (.int .i64 0)).heap[gb165]? = some (.cells #[.int .i64 0, .int .i64 0, .bool false, .int .i64 0, .int .i64 0, .int .i64 0, .bool false, .int .i64 0, .int .i64 0] 24 (0, 0))) := ⟨Sq.F BK165.out⟩
    have n2_ : Aside0 (Below w.heap.size w ((((w36.setCell ⟨gb164, 5, none⟩ (.int .i64 (wrap64 (a0_5 + 1)))).setCell ⟨gb164, 4, none⟩ (.int .i64 7)).setCell ⟨gb164, 5, none⟩ (.int .i64 0)).setCell ⟨gb164, 7, none⟩ (.int .i64 0))) := ⟨Sq.w HB.out⟩
    (try clear BK164)
    (try clear BK165)
    (try clear HB)
    generalize ((((w36.setCell ⟨gb164, 5, none⟩ (.int .i64 (wrap64 (a0_5 + 1)))).setCell ⟨gb164, 4, none⟩ (.int .i64 7)).setCell ⟨gb164, 5, none⟩ (.int .i64 0)).setCell ⟨gb164, 7, none⟩ (.int .i64 0)) = w39 at n0_ n1_ n2_ ⊢
    have BK164 := n0_; have BK165 := n1_; have HB := n2_; clear n0_ n1_ n2_
    (try (rw [drewN_self w39]; generalize hq_ : World.drewN w39 _ = w39; have n0_ := Aside0.mk (blk_at hq_ BK164.out); have n1_ := Aside0.mk (blk_at hq_ BK165.out); have n2_ := Aside0.mk (below_at hq_ HB.out); clear hq_ BK164 BK165 HB; have BK164 := n0_; have BK165 := n1_; have HB := n2_; clear n0_ n1_ n2_))
    replace BK164 := Aside0.mk (blk_drew BK164.out); replace BK165 := Aside0.mk (blk_drew BK165.out); replace HB := Aside0.mk (below_drew1 HB.out)
    refine start_ (n := 6) (S := fun w' => w'.cell? ⟨gb164, 0, none⟩ = some (.int .i64 a0_0) ∧ w'.cell? ⟨gb164, 1, none⟩ = some (.int .i64 a0_1) ∧ w'.cell? ⟨gb164, 2, none⟩ = some (.bool a0_2) ∧ w'.cell? ⟨gb164, 3, none⟩ = some (.int .i64 a0_3) ∧ w'.cell? ⟨gb164, 4, none⟩ = some (.int .i64 7) ∧ w'.cell? ⟨gb164, 5, none⟩ = some (.int .i64 0) ∧ w'.cell? ⟨gb164, 6, none⟩ = some (.bool false) ∧ w'.cell? ⟨gb164, 7, none⟩ = some (.int .i64 0) ∧ w'.cell? ⟨gb164, 8, none⟩ = some (.int .i64 a0_8)) (ds := []) #[false, false, false, false, false, false] (by kernel_rfl) rfl rfl ⟨(blk_cell BK164.out 0).trans rfl, (blk_cell BK164.out 1).trans rfl, (blk_cell BK164.out 2).trans rfl, (blk_cell BK164.out 3).trans rfl, (blk_cell BK164.out 4).trans rfl, (blk_cell BK164.out 5).trans rfl, (blk_cell BK164.out 6).trans rfl, (blk_cell BK164.out 7).trans rfl, (blk_cell BK164.out 8).trans rfl⟩ (fun hHeld => ?_)
    generalize w39.drew = w40 at BK164 BK165 HB hHeld ⊢
    refine pure_ (i := 1) (N := some 23) (v := ?_) (a' := ?_) #[false, true, false, false, false, false] rfl rfl (by kernel_rfl) (fun _ _ _ h => h) (Or.inl ⟨by rfl, ?_⟩) ?_ ?_
    rotate_left
    ·intro w'; go_simp; with_reducible rfl
    rotate_left
    ·simp only [Act.put, List.setIfInBounds_toArray, List.set_cons_zero, List.set_cons_succ, i64_w, i32_w]; rfl
    refine take_ (i := 0) (N := some 22) (v := ?_) (a' := ?_) #[true, true, false, false, false, false] rfl rfl (by kernel_rfl) (fun _ _ _ h => h) (Or.inl ⟨by rfl, ?_⟩) hHeld ?_ ?_
    rotate_left
    ·rintro w' ⟨s0, s1, s2, s3, s4, s5, s6, s7, s8⟩
     go_simp
     with_reducible rfl
    rotate_left
    ·simp only [Act.put, List.setIfInBounds_toArray, List.set_cons_zero, List.set_cons_succ, i64_w, i32_w]; rfl
    refine take_ (i := 2) (N := some 24) (v := ?_) (a' := ?_) #[true, true, true, false, false, false] rfl rfl (by kernel_rfl) (fun _ _ _ h => h) (Or.inl ⟨by rfl, ?_⟩) hHeld ?_ ?_
    rotate_left
    ·rintro w' ⟨s0, s1, s2, s3, s4, s5, s6, s7, s8⟩
     go_simp
     with_reducible rfl
    rotate_left
    ·simp only [Act.put, List.setIfInBounds_toArray, List.set_cons_zero, List.set_cons_succ, i64_w, i32_w]; rfl
    refine pure_ (i := 3) (N := some 25) (v := ?_) (a' := ?_) #[true, true, true, true, false, false] rfl rfl (by kernel_rfl) (fun _ _ _ h => h) (Or.inl ⟨by rfl, ?_⟩) ?_ ?_
    rotate_left
    ·intro w'; go_simp; with_reducible rfl
    rotate_left
    ·simp only [Act.put, List.setIfInBounds_toArray, List.set_cons_zero, List.set_cons_succ, i64_w, i32_w]; rfl
    refine one_ (i := 4) (N := none) #[true, true, true, true, true, false] rfl rfl (by kernel_rfl) (by decide) (fun K hK => ?_)
    have hs41 : w40.cell? ⟨gb165, 0, none⟩ = some (.int .i64 0) := (blk_cell BK165.out 0).trans rfl
    have hfs41 := blk_frozen BK165.out 0
    have hns41_0 := NB164_165.out
    have hms41_0 := NB165_164.out
    have hs42 : w40.cell? ⟨gb165, 1, none⟩ = some (.int .i64 0) := (blk_cell BK165.out 1).trans rfl
    have hfs42 := blk_frozen BK165.out 1
    have hns42_0 := NB164_165.out
    have hms42_0 := NB165_164.out
    have hs43 : w40.cell? ⟨gb165, 2, none⟩ = some (.bool false) := (blk_cell BK165.out 2).trans rfl
    have hfs43 := blk_frozen BK165.out 2
    have hns43_0 := NB164_165.out
    have hms43_0 := NB165_164.out
    have hs44 : w40.cell? ⟨gb165, 3, none⟩ = some (.int .i64 0) := (blk_cell BK165.out 3).trans rfl
    have hfs44 := blk_frozen BK165.out 3
    have hns44_0 := NB164_165.out
    have hms44_0 := NB165_164.out
    have hs45 : w40.cell? ⟨gb165, 4, none⟩ = some (.int .i64 0) := (blk_cell BK165.out 4).trans rfl
    have hfs45 := blk_frozen BK165.out 4
    have hns45_0 := NB164_165.out
    have hms45_0 := NB165_164.out
    have hs46 : w40.cell? ⟨gb165, 5, none⟩ = some (.int .i64 0) := (blk_cell BK165.out 5).trans rfl
    have hfs46 := blk_frozen BK165.out 5
    have hns46_0 := NB164_165.out
    have hms46_0 := NB165_164.out
    have hs47 : w40.cell? ⟨gb165, 6, none⟩ = some (.bool false) := (blk_cell BK165.out 6).trans rfl
    have hfs47 := blk_frozen BK165.out 6
    have hns47_0 := NB164_165.out
    have hms47_0 := NB165_164.out
    have hs48 : w40.cell? ⟨gb165, 7, none⟩ = some (.int .i64 0) := (blk_cell BK165.out 7).trans rfl
    have hfs48 := blk_frozen BK165.out 7
    have hns48_0 := NB164_165.out
    have hms48_0 := NB165_164.out
    have hs49 : w40.cell? ⟨gb165, 8, none⟩ = some (.int .i64 0) := (blk_cell BK165.out 8).trans rfl
    have hfs49 := blk_frozen BK165.out 8
    have hns49_0 := NB164_165.out
    have hms49_0 := NB165_164.out
    refine skip_ (w1 := ?_) (by rfl) rfl ?_ ?_
    rotate_left
    ·go_simp
     rfl
    refine hK.out _ _ (Sq.hold hHeld) (fun hHeld => ?_)
    clear hK K
    refine pure_ (i := 5) (N := some 3) (v := ?_) (a' := ?_) #[true, true, true, true, true, true] rfl rfl (by kernel_rfl) (fun _ _ _ h => h) (Or.inl ⟨by rfl, ?_⟩) ?_ ?_
    rotate_left
    ·intro w'; go_simp; with_reducible rfl
    rotate_left
    ·simp only [Act.put, List.setIfInBounds_toArray, List.set_cons_zero, List.set_cons_succ, i64_w, i32_w]; rfl
    refine done_ (by kernel_rfl) ?_
    try go_wp2
    refine bodyPost_ret (results_ct rfl _ _ gb165 24 #[.int .i64 a0_0, .int .i64 a0_1, .bool a0_2, .int .i64 a0_3, .int .i64 7, .int .i64 0, .bool false, .int .i64 0, .int .i64 a0_8] (0, 0) _ rfl (Sq.B BK165.out) Try.underlying24 rfl (by kernel_rfl)) rfl ?_
    exact ⟨by first | rfl | (simp [errW_none, errW_some] <;> rfl) | (simp [*, errW_none, errW_some] <;> rfl), Sq.w HB.out⟩
  ·rw [if_neg c18] at H
   have c18b0 : ((wrap64 (a0_5 + 1)) == 3) = false := beq_eq_false_iff_ne.mpr c18
   have c18b1 : ((wrap64 (a0_5 + 1)) != 3) = true := bne_iff_ne.mpr c18
   simp only [Option.some.injEq, Prod.mk.injEq] at H
   obtain ⟨rfl, rfl, rfl, rfl, rfl, rfl, rfl, rfl, rfl, rfl⟩ := H
   go_enter Try.func36, Try.ntmps36
   go_wp2_with (first | ((with_reducible refine gate_dst (N := 1) rfl ?_); refine box_event ?hg (N := 1) ?hd (cs := #[.int .i64 a0_0, .int .i64 a0_1, .bool a0_2, .int .i64 a0_3, .int .i64 a0_4, .int .i64 a0_5, .bool a0_6, .int .i64 a0_7, .int .i64 a0_8]) (t := 24) ?hr ?_; (case hd => rfl); (case hg => rfl); (case hr => first | (go_simp; done) | (go_simp; rfl)); intro gb164 hg w50 hbox hb; have BK164 := Aside0.mk hbox; have GW164 := Sq.ge hg HB; have GE164 := Sq.ge hg HB; replace HB := Sq.sw HB hb; clear hb hbox hg) | ((with_reducible refine gate_dst (N := 2) rfl ?_); refine box_event ?hg (N := 2) ?hd (cs := #[.int .i64 0, .int .i64 0, .bool false, .int .i64 0, .int .i64 0, .int .i64 0, .bool false, .int .i64 0, .int .i64 0]) (t := 24) ?hr ?_; (case hd => rfl); (case hg => rfl); (case hr => first | (go_simp; done) | (go_simp; rfl)); intro gb165 hg w51 hbox hb; have BK165 := Aside0.mk hbox; have GW165 := Sq.ge hg HB; have GE165 := Sq.ge hg HB; obtain ⟨NB164_165, NB165_164⟩ := Sq.np hg BK164; replace BK164 := Sq.sb BK164 hb; replace HB := Sq.sw HB hb; clear hb hbox hg; have b52 := NB164_165.out; have d52 := NB165_164.out; obtain ⟨z53_0, z53_1, z53_2, z53_3, z53_4, z53_5, z53_6, z53_7, z53_8⟩ := Sq.c9 BK164.out; obtain ⟨y53_0, y53_1, y53_2, y53_3, y53_4, y53_5, y53_6, y53_7, y53_8⟩ := Sq.f9 BK164.out; obtain ⟨z54_0, z54_1, z54_2, z54_3, z54_4, z54_5, z54_6, z54_7, z54_8⟩ := Sq.c9 BK165.out; obtain ⟨y54_0, y54_1, y54_2, y54_3, y54_4, y54_5, y54_6, y54_7, y54_8⟩ := Sq.f9 BK165.out))
   refine bodyPost_ret (results_ct rfl _ _ gb165 24 #[.int .i64 a0_0, .int .i64 a0_1, .bool a0_2, .int .i64 a0_3, .int .i64 a0_4, .int .i64 (wrap64 (a0_5 + 1)), .bool a0_6, .int .i64 a0_7, .int .i64 a0_8] (0, 0) _ rfl (Sq.B BK165.out) Try.underlying24 rfl (by kernel_rfl)) rfl ?_
   exact ⟨by first | rfl | (simp [errW_none, errW_some] <;> rfl) | (simp [*, errW_none, errW_some] <;> rfl), Sq.w HB.out⟩

/-! ### drv_Take: function 18 -/
-- given
theorem take_mk (w : World) : (Instr.makeChan 89 (.int .i64 1)).run Try.prog w = .ok (.chan (some w.heap.size)) (w.alloc (.chan 1 #[] false 0 0 false)) := by
  have h : (Try.prog.info? 27).map (·.bytes) = some 32 := by kernel_rfl
  obtain ⟨i, hi, hb⟩ := Option.map_eq_some_iff.1 h
  simpa using Go.Conc.run_makeChan (P := Try.prog) (w := w) Try.underlying89 hi .i64 1 (by omega) (by rw [hb]; omega)
theorem take_zero (w : World) : (zeroValue 27).run Try.prog w = .ok (.agg #[.int .i64 0, .slice none 0 0]) w := by kernel_rfl
set_option maxHeartbeats 4000000 in
set_option maxRecDepth 100000 in
theorem take_next (k : Nat) (a0_0 a0_1 : Int) (a0_2 : Bool) (a0_3 a0_4 a0_5 : Int) (a0_6 : Bool) (a0_7 a0_8 : Int) (r1 r2 : Int) (r3 : Bool) (r4 r5 r6 : Int) (r7 : Bool) (r8 r9 : Int) (r10 : List (S55)) (a1_0 : Int) (A1_1 : Option Addr) (c1_1 : Nat) (l1_1 : List Int) (n1 n2 : Int) (n3 : List Int) (n4 : Int) (w : World) (hr1_1 : Kd.C (Kd.int .u8) w A1_1 l1_1.length l1_1) (hc1_1 : l1_1.length ≤ c1_1)
  (hn : drv_Next.f a0_0 a0_1 a0_2 a0_3 a0_4 a0_5 a0_6 a0_7 a0_8 = some (n1, n2, n3, n4, true, 0)) (hg : drv_good.f k a0_0 a0_1 a0_2 a0_3 a0_4 a0_5 a0_6 a0_7 a0_8 n1 n2 n3 n4 a1_0 l1_1 = some true) (hrow : ∀ n, ∃ s tx, Instr.findNow (.int .i64) (.int .i64 a0_4) (Dr.tabRows n).toList 0 = some (some (s, .agg #[tx, .func (.func 52) #[] #[]]))) (hc : drv_next.f a0_0 a0_1 a0_2 a0_3 a0_4 0 a0_6 a0_7 a0_8 l1_1 = some (r1, r2, r3, r4, r5, r6, r7, r8, r9, r10)) :
    Calls Try.prog 18 #[.agg #[.int .i64 a0_0, .int .i64 a0_1, .bool a0_2, .int .i64 a0_3, .int .i64 a0_4, .int .i64 a0_5, .bool a0_6, .int .i64 a0_7, .int .i64 a0_8], .agg #[.int .i64 a1_0, .slice A1_1 l1_1.length c1_1]] w fun e w' => ∃ v9_ : Value, e = .returned (.tuple #[.agg #[.int .i64 r1, .int .i64 r2, .bool r3, .int .i64 r4, .int .i64 r5, .int .i64 r6, .bool r7, .int .i64 r8, .int .i64 r9], v9_, .bool false, .int .i64 0]) ∧ Kd.R k55 55 w' w.heap.size (fun _ => True) v9_ r10 ∧ Below w.heap.size w w' := by
  have HR := Aside0.mk hr1_1
  have HC := Aside0.mk hc1_1
  have HN := Aside0.mk hn
  have HG := Aside0.mk hg
  have HCL := Aside0.mk hc
  have HROW := Aside0.mk hrow
  clear hr1_1 hc1_1 hn hg hc hrow
  have hmk := take_mk
  go_enter Try.func18, Try.ntmps18
  go_upto_region 6 with (first | (go_at_call 9; (with_reducible refine (drv_Next.calls _ _ _ _ _ _ _ _ _ _ _ _ _ _ _ _ HN.out).mono ?_); rintro e w1 ⟨sv, rfl, hsv, hb1⟩; obtain ⟨A3, c3, rfl⟩ := Kd.R_slice hsv; have HSV := Aside0.mk hsv; obtain ⟨hD, hA, hN, hB, z1, z2, z3, z4, z5, z6⟩ := Tk.three hb1; have BKD := Aside0.mk hD; have BKA := Aside0.mk hA; have BKN := Aside0.mk hN; have HB1 := Aside0.mk hB; clear hsv hb1 hD hA hN hB; obtain ⟨hd0, hd1, hd2, hd3, hd4, hd5, hd6, hd7, hd8⟩ := Sq.c9 BKD.out; obtain ⟨ha0, ha1⟩ := Sq.c2 BKA.out) | (go_at_call 35; (with_reducible refine (drv_good.calls k _ _ _ _ _ _ _ _ _ _ _ _ _ _ _ _ _ _ _ _ _ (Kd.C_alloc (Kd.C_alloc (Kd.R_reads' HSV.out).2.2 _) _) (Kd.R_reads' HSV.out).2.1 (Kd.C_alloc (Kd.C_alloc (Kd.C_below HR.out HB1.out) _) _) HC.out HG.out).mono ?_); rintro e w2 ⟨rfl, hb2⟩; have BKC := Aside0.mk (blk_below (blk_new (w1.alloc (.cells #[.int .i64 n1, .int .i64 n2, .slice A3 n3.length c3, .int .i64 n4] 31 (0, 0))) (.chan 1 #[] false 0 0 false)) hb2); simp only [World.size_alloc] at BKC; have BD2 := Aside0.mk (blk_below (blk_alloc (blk_alloc BKD.out _) _) hb2); have BA2 := Aside0.mk (blk_below (blk_alloc (blk_alloc BKA.out _) _) hb2); have BN2 := Aside0.mk (blk_below (blk_alloc (blk_alloc BKN.out _) _) hb2); have HB2 := Aside0.mk (below_step (below_alloc (below_alloc HB1.out _) _) hb2); clear hb2; have hg2 := HB1.out.size; have hw2 : w.heap.size ≤ w1.heap.size + 1 := (by omega); clear hg2 hd0 hd1 hd2 hd3 hd4 hd5 hd6 hd7 hd8 ha0 ha1 z1 z2 z3 z4 z5 z6 BKD BKA BKN; obtain ⟨ha0, ha1⟩ := Sq.c2 BA2.out))
  refine Ch.wp_region_from ?_
  refine Ch.FromL.value (v := .chan (some (w1.heap.size + 1))) (w' := w2) rfl rfl ?_
  simp only [Act.put, List.setIfInBounds_toArray, List.set_cons_zero, List.set_cons_succ]
  refine Ch.FromL.value (v := .agg #[.int .i64 a1_0, .slice A1_1 l1_1.length c1_1]) (w' := w2) rfl ?ld ?_
  case ld => go_simp
  simp only [Act.put, List.setIfInBounds_toArray, List.set_cons_zero, List.set_cons_succ]
  refine Ch.FromL.comm (w1 := w2) rfl rfl (Ch.Comm.send (w1.heap.size + 1) 1 #[] 0 0 false (.agg #[.int .i64 a1_0, .slice A1_1 l1_1.length c1_1]) (.tuple #[]) BKC.out (by decide)) ?_
  refine Ch.FromL.ops ?_
  obtain ⟨w3, hw3⟩ : ∃ w3, w3 = ({ w2 with heap := w2.heap.setIfInBounds (w1.heap.size + 1) (.chan 1 (#[].push (.agg #[.int .i64 a1_0, .slice A1_1 l1_1.length c1_1])) false (0 + 1) 0 false) } : World) := ⟨_, rfl⟩
  rw [← hw3]
  have BD3 := Aside0.mk (show w3.heap[w.heap.size]? = _ from hw3 ▸ Ch.chan_blk BKC.out BD2.out (by simp))
  have BN3 := Aside0.mk (show w3.heap[w.heap.size + 1 + 1]? = _ from hw3 ▸ Ch.chan_blk BKC.out BN2.out (by simp))
  have BC3 := Aside0.mk (show w3.heap[w1.heap.size + 1]? = _ from hw3 ▸ Ch.chan_same BKC.out)
  have HB3 := Aside0.mk (show Below w.heap.size w w3 from hw3 ▸ HB2.out.trans (Ch.chan_below hw2))
  clear hw3 BKC BD2 BA2 BN2 HB2 ha0 ha1
  go_upto_region 8 with (fail)
  refine Ch.wp_region_from ?_
  refine Ch.FromL.comm (w1 := w3) rfl ?rn (Ch.Comm.take (w1.heap.size + 1) 1 (#[].push (.agg #[.int .i64 a1_0, .slice A1_1 l1_1.length c1_1])) (0 + 1) 0 false (.agg #[.int .i64 0, .slice none 0 0]) BC3.out (by simp)) ?_
  case rn =>
    simp only [execOp]
    simp [take_zero]
    rfl
  refine Ch.FromL.ops ?_
  simp only [Act.put, List.setIfInBounds_toArray, List.set_cons_zero, List.set_cons_succ]
  obtain ⟨w4, hw4⟩ : ∃ w4, w4 = ({ w3 with heap := w3.heap.setIfInBounds (w1.heap.size + 1) (.chan 1 ((#[].push (.agg #[.int .i64 a1_0, .slice A1_1 l1_1.length c1_1])).extract 1 (#[].push (Value.agg #[.int .i64 a1_0, .slice A1_1 l1_1.length c1_1])).size) false (0 + 1) (0 + 1) false) } : World) := ⟨_, rfl⟩
  rw [← hw4]
  have BD4 := Aside0.mk (show w4.heap[w.heap.size]? = _ from hw4 ▸ Ch.chan_blk BC3.out BD3.out (by simp))
  have BN4 := Aside0.mk (show w4.heap[w.heap.size + 1 + 1]? = _ from hw4 ▸ Ch.chan_blk BC3.out BN3.out (by simp))
  have HB4 := Aside0.mk (show Below w.heap.size w w4 from hw4 ▸ HB3.out.trans (Ch.chan_below hw2))
  have hva : (#[].push (Value.agg #[.int .i64 a1_0, .slice A1_1 l1_1.length c1_1])).getD 0 undef = .agg #[.int .i64 a1_0, .slice A1_1 l1_1.length c1_1] := rfl
  rw [hva]
  have hfd := blk_frozen BD4.out 5
  have hd5 : w4.cell? ⟨w.heap.size, 5, none⟩ = some (.int .i64 a0_5) := (blk_cell BD4.out 5).trans rfl
  have hz4 := blk_lt BD4.out
  clear hw4 BC3 BD3 BN3 HB3 hw2 hmk HSV HG HN HB1
  go_upto_block 0 with (fail)
  go_cut [5, 6] (fun v5 v6 wc => ∃ v9 : Value, v5 = v9 ∧ v6 = .bool false ∧ Aside0 (wc.heap[w.heap.size + 1 + 1]? = some (.cells #[.int .i64 r1, .int .i64 r2, .bool r3, .int .i64 r4, .int .i64 r5, .int .i64 r6, .bool r7, .int .i64 r8, .int .i64 r9] 24 (0, 0))) ∧ Aside0 (Kd.R k55 55 wc w.heap.size (fun _ => True) v9 r10) ∧ Aside0 (Below w.heap.size w wc))
  case first =>
    go_upto_region 12 with (fail)
    obtain ⟨gx, hgx⟩ : ∃ gx, gx = w4.heap.size := ⟨_, rfl⟩
    obtain ⟨w5, hw5⟩ : ∃ w5, w5 = ((w4.setCell ⟨w.heap.size, 5, none⟩ (.int .i64 0)).alloc (.cells #[.int .i64 a1_0, .slice A1_1 l1_1.length c1_1] 27 (0, 0))) := ⟨_, rfl⟩
    have BD5 := Aside0.mk (show w5.heap[w.heap.size]? = some (.cells #[.int .i64 a0_0, .int .i64 a0_1, .bool a0_2, .int .i64 a0_3, .int .i64 a0_4, .int .i64 0, .bool a0_6, .int .i64 a0_7, .int .i64 a0_8] 24 (0, 0)) from hw5 ▸ blk_alloc (blk_put BD4.out 5 _ rfl) _)
    have BN5 := Aside0.mk (show w5.heap[w.heap.size + 1 + 1]? = _ from hw5 ▸ blk_alloc (blk_far BN4.out (show w.heap.size + 1 + 1 ≠ w.heap.size by omega) _) _)
    have BX5 := Aside0.mk (show w5.heap[gx]? = some (.cells #[.int .i64 a1_0, .slice A1_1 l1_1.length c1_1] 27 (0, 0)) from by rw [hw5, hgx]; have := blk_new (w4.setCell ⟨w.heap.size, 5, none⟩ (.int .i64 0)) (.cells #[.int .i64 a1_0, .slice A1_1 l1_1.length c1_1] 27 (0, 0)); simpa [World.setCell] using this)
    have HB5 := Aside0.mk (show Below w.heap.size w w5 from hw5 ▸ below_alloc (below_set HB4.out (Nat.le_refl _)) _)
    have gz3 : w.heap.size + 1 + 1 < gx := hgx ▸ blk_lt BN4.out
    rw [← hw5, ← hgx]
    have hN1 : w.heap.size ≠ w.heap.size + 1 + 1 := by omega
    have hN2 : gx ≠ w.heap.size + 1 + 1 := by omega
    have hGE : w.heap.size ≤ w.heap.size + 1 + 1 := by omega
    have hS5 : (fun w' : World => w'.cell? ⟨w.heap.size, 0, none⟩ = some (.int .i64 a0_0) ∧ w'.cell? ⟨w.heap.size, 1, none⟩ = some (.int .i64 a0_1) ∧ w'.cell? ⟨w.heap.size, 2, none⟩ = some (.bool a0_2) ∧ w'.cell? ⟨w.heap.size, 3, none⟩ = some (.int .i64 a0_3) ∧ w'.cell? ⟨w.heap.size, 4, none⟩ = some (.int .i64 a0_4) ∧ w'.cell? ⟨w.heap.size, 5, none⟩ = some (.int .i64 0) ∧ w'.cell? ⟨w.heap.size, 6, none⟩ = some (.bool a0_6) ∧ w'.cell? ⟨w.heap.size, 7, none⟩ = some (.int .i64 a0_7) ∧ w'.cell? ⟨w.heap.size, 8, none⟩ = some (.int .i64 a0_8) ∧ w'.cell? ⟨gx, 0, none⟩ = some (.int .i64 a1_0) ∧ w'.cell? ⟨gx, 1, none⟩ = some (.slice A1_1 l1_1.length c1_1)) w5.drew := Sq.j9 (blk_drew BD5.out) (Sq.c2 (blk_drew BX5.out))
    have hfl : ∀ (tx : Value) (W : World), (Instr.field 83 (.agg #[tx, .func (.func 52) #[] #[]]) 1).run Try.prog W = .ok (.func (.func 52) #[] #[]) W := fun _ _ => by kernel_rfl
    clear hw5 hgx BD4 BN4 HB4 hfd hd5 hz4 hva gz3
    go_region_held3 (fun w' : World => w'.cell? ⟨w.heap.size, 0, none⟩ = some (.int .i64 a0_0) ∧ w'.cell? ⟨w.heap.size, 1, none⟩ = some (.int .i64 a0_1) ∧ w'.cell? ⟨w.heap.size, 2, none⟩ = some (.bool a0_2) ∧ w'.cell? ⟨w.heap.size, 3, none⟩ = some (.int .i64 a0_3) ∧ w'.cell? ⟨w.heap.size, 4, none⟩ = some (.int .i64 a0_4) ∧ w'.cell? ⟨w.heap.size, 5, none⟩ = some (.int .i64 0) ∧ w'.cell? ⟨w.heap.size, 6, none⟩ = some (.bool a0_6) ∧ w'.cell? ⟨w.heap.size, 7, none⟩ = some (.int .i64 a0_7) ∧ w'.cell? ⟨w.heap.size, 8, none⟩ = some (.int .i64 a0_8) ∧ w'.cell? ⟨gx, 0, none⟩ = some (.int .i64 a1_0) ∧ w'.cell? ⟨gx, 1, none⟩ = some (.slice A1_1 l1_1.length c1_1)) (first | with_reducible assumption | with_reducible exact Tk.keep11s hN1 hN2 (by with_reducible assumption)) (first | (go_at_call 33; ((with_reducible refine (Dr.table_tab _).mono ?_); rintro e' w6 ⟨n6, ht, rfl⟩; have hS6 := Tk.keep11 ht.below hS5; obtain ⟨s6, tx6, hf6⟩ := HROW.out n6; have hlk : (Instr.lookup 85 (.map (some (n6 + 1))) (.int .i64 a0_4) false).run Try.prog w6 = .ok (.agg #[tx6, .func (.func 52) #[] #[]]) w6 := Dr.look_row ht.map a0_4 s6 _ false hf6; clear hf6; have HB6 := Aside0.mk (below_step (below_drew1 HB5.out) ht.below); have BN6 := Aside0.mk (blk_below (blk_drew BN5.out) ht.below); clear ht)) | (go_at_call 52; ((with_reducible refine (drv_next.calls _ _ _ _ _ _ _ _ _ _ _ _ _ _ _ _ _ _ _ _ _ _ _ (Kd.C_below HR.out HB6.out) HC.out HCL.out).mono ?_); rintro e' w7 ⟨v9, rfl, h9, hb7⟩; have hS7 := Tk.keep11 hb7 hS6; have HB7 := Aside0.mk (below_step HB6.out hb7); have BN7 := Aside0.mk (blk_below BN6.out hb7); have H9 := Aside0.mk (Kd.R_lower (h9) HB6.out.size); clear h9 hb7; obtain ⟨hn0, hn1, hn2, hn3, hn4, hn5, hn6, hn7, hn8⟩ := Sq.c9 BN7.out; obtain ⟨hfn0, hfn1, hfn2, hfn3, hfn4, hfn5, hfn6, hfn7, hfn8⟩ := Sq.f9 BN7.out)))
    go_wp2
    go_meet
    case rel => exact ⟨v9, rfl, rfl, ⟨Tk.put9 BN7.out⟩, ⟨Tk.R9 H9.out BN7.out (by decide)⟩, ⟨Tk.below9 HB7.out hGE⟩⟩
  case rest =>
    obtain ⟨v9, rfl, rfl, BN, H9, HB⟩ := hcut
    obtain ⟨hn0, hn1, hn2, hn3, hn4, hn5, hn6, hn7, hn8⟩ := Sq.c9 BN.out
    obtain ⟨hfn0, hfn1, hfn2, hfn3, hfn4, hfn5, hfn6, hfn7, hfn8⟩ := Sq.f9 BN.out
    go_wp2
    refine bodyPost_ret (v := .tuple #[.agg #[.int .i64 r1, .int .i64 r2, .bool r3, .int .i64 r4, .int .i64 r5, .int .i64 r6, .bool r7, .int .i64 r8, .int .i64 r9], u5, .bool false, .int .i64 0]) ?_ rfl ?_
    · refine Ch.results_ctttt (fn := Try.f18) (p := 4) (q := 5) (r := 6) (s := 7) (ty := 24) rfl _ _ (w.heap.size + 1 + 1) 24 #[.int .i64 r1, .int .i64 r2, .bool r3, .int .i64 r4, .int .i64 r5, .int .i64 r6, .bool r7, .int .i64 r8, .int .i64 r9] (0, 0) _ rfl (Tk.put9 BN.out) Try.underlying24 rfl (by kernel_rfl)
    · exact ⟨u5, rfl, Tk.R9 H9.out BN.out (by decide), Tk.below9 HB.out (by omega)⟩
set_option maxHeartbeats 4000000 in
set_option maxRecDepth 100000 in
theorem take_counted (k : Nat) (a0_0 a0_1 : Int) (a0_2 : Bool) (a0_3 a0_4 a0_5 : Int) (a0_6 : Bool) (a0_7 a0_8 : Int) (r1 r2 : Int) (r3 : Bool) (r4 r5 r6 : Int) (r7 : Bool) (r8 r9 : Int) (r10 : List (S55)) (a1_0 : Int) (A1_1 : Option Addr) (c1_1 : Nat) (l1_1 : List Int) (n1 n2 : Int) (n3 : List Int) (n4 : Int) (w : World) (hr1_1 : Kd.C (Kd.int .u8) w A1_1 l1_1.length l1_1) (hc1_1 : l1_1.length ≤ c1_1)
  (hn : drv_Next.f a0_0 a0_1 a0_2 a0_3 a0_4 a0_5 a0_6 a0_7 a0_8 = some (n1, n2, n3, n4, true, 0)) (hg : drv_good.f k a0_0 a0_1 a0_2 a0_3 a0_4 a0_5 a0_6 a0_7 a0_8 n1 n2 n3 n4 a1_0 l1_1 = some true) (hrow : ∀ n, ∃ s tx, Instr.findNow (.int .i64) (.int .i64 a0_4) (Dr.tabRows n).toList 0 = some (some (s, .agg #[tx, .func (.func 55) #[] #[]]))) (hc : drv_counted.f a0_0 a0_1 a0_2 a0_3 a0_4 0 a0_6 a0_7 a0_8 l1_1 = some (r1, r2, r3, r4, r5, r6, r7, r8, r9, r10)) :
    Calls Try.prog 18 #[.agg #[.int .i64 a0_0, .int .i64 a0_1, .bool a0_2, .int .i64 a0_3, .int .i64 a0_4, .int .i64 a0_5, .bool a0_6, .int .i64 a0_7, .int .i64 a0_8], .agg #[.int .i64 a1_0, .slice A1_1 l1_1.length c1_1]] w fun e w' => ∃ v9_ : Value, e = .returned (.tuple #[.agg #[.int .i64 r1, .int .i64 r2, .bool r3, .int .i64 r4, .int .i64 r5, .int .i64 r6, .bool r7, .int .i64 r8, .int .i64 r9], v9_, .bool false, .int .i64 0]) ∧ Kd.R k55 55 w' w.heap.size (fun _ => True) v9_ r10 ∧ Below w.heap.size w w' := by
  have HR := Aside0.mk hr1_1
  have HC := Aside0.mk hc1_1
  have HN := Aside0.mk hn
  have HG := Aside0.mk hg
  have HCL := Aside0.mk hc
  have HROW := Aside0.mk hrow
  clear hr1_1 hc1_1 hn hg hc hrow
  have hmk := take_mk
  go_enter Try.func18, Try.ntmps18
  go_upto_region 6 with (first | (go_at_call 9; (with_reducible refine (drv_Next.calls _ _ _ _ _ _ _ _ _ _ _ _ _ _ _ _ HN.out).mono ?_); rintro e w1 ⟨sv, rfl, hsv, hb1⟩; obtain ⟨A3, c3, rfl⟩ := Kd.R_slice hsv; have HSV := Aside0.mk hsv; obtain ⟨hD, hA, hN, hB, z1, z2, z3, z4, z5, z6⟩ := Tk.three hb1; have BKD := Aside0.mk hD; have BKA := Aside0.mk hA; have BKN := Aside0.mk hN; have HB1 := Aside0.mk hB; clear hsv hb1 hD hA hN hB; obtain ⟨hd0, hd1, hd2, hd3, hd4, hd5, hd6, hd7, hd8⟩ := Sq.c9 BKD.out; obtain ⟨ha0, ha1⟩ := Sq.c2 BKA.out) | (go_at_call 35; (with_reducible refine (drv_good.calls k _ _ _ _ _ _ _ _ _ _ _ _ _ _ _ _ _ _ _ _ _ (Kd.C_alloc (Kd.C_alloc (Kd.R_reads' HSV.out).2.2 _) _) (Kd.R_reads' HSV.out).2.1 (Kd.C_alloc (Kd.C_alloc (Kd.C_below HR.out HB1.out) _) _) HC.out HG.out).mono ?_); rintro e w2 ⟨rfl, hb2⟩; have BKC := Aside0.mk (blk_below (blk_new (w1.alloc (.cells #[.int .i64 n1, .int .i64 n2, .slice A3 n3.length c3, .int .i64 n4] 31 (0, 0))) (.chan 1 #[] false 0 0 false)) hb2); simp only [World.size_alloc] at BKC; have BD2 := Aside0.mk (blk_below (blk_alloc (blk_alloc BKD.out _) _) hb2); have BA2 := Aside0.mk (blk_below (blk_alloc (blk_alloc BKA.out _) _) hb2); have BN2 := Aside0.mk (blk_below (blk_alloc (blk_alloc BKN.out _) _) hb2); have HB2 := Aside0.mk (below_step (below_alloc (below_alloc HB1.out _) _) hb2); clear hb2; have hg2 := HB1.out.size; have hw2 : w.heap.size ≤ w1.heap.size + 1 := (by omega); clear hg2 hd0 hd1 hd2 hd3 hd4 hd5 hd6 hd7 hd8 ha0 ha1 z1 z2 z3 z4 z5 z6 BKD BKA BKN; obtain ⟨ha0, ha1⟩ := Sq.c2 BA2.out))
  refine Ch.wp_region_from ?_
  refine Ch.FromL.value (v := .chan (some (w1.heap.size + 1))) (w' := w2) rfl rfl ?_
  simp only [Act.put, List.setIfInBounds_toArray, List.set_cons_zero, List.set_cons_succ]
  refine Ch.FromL.value (v := .agg #[.int .i64 a1_0, .slice A1_1 l1_1.length c1_1]) (w' := w2) rfl ?ld ?_
  case ld => go_simp
  simp only [Act.put, List.setIfInBounds_toArray, List.set_cons_zero, List.set_cons_succ]
  refine Ch.FromL.comm (w1 := w2) rfl rfl (Ch.Comm.send (w1.heap.size + 1) 1 #[] 0 0 false (.agg #[.int .i64 a1_0, .slice A1_1 l1_1.length c1_1]) (.tuple #[]) BKC.out (by decide)) ?_
  refine Ch.FromL.ops ?_
  obtain ⟨w3, hw3⟩ : ∃ w3, w3 = ({ w2 with heap := w2.heap.setIfInBounds (w1.heap.size + 1) (.chan 1 (#[].push (.agg #[.int .i64 a1_0, .slice A1_1 l1_1.length c1_1])) false (0 + 1) 0 false) } : World) := ⟨_, rfl⟩
  rw [← hw3]
  have BD3 := Aside0.mk (show w3.heap[w.heap.size]? = _ from hw3 ▸ Ch.chan_blk BKC.out BD2.out (by simp))
  have BN3 := Aside0.mk (show w3.heap[w.heap.size + 1 + 1]? = _ from hw3 ▸ Ch.chan_blk BKC.out BN2.out (by simp))
  have BC3 := Aside0.mk (show w3.heap[w1.heap.size + 1]? = _ from hw3 ▸ Ch.chan_same BKC.out)
  have HB3 := Aside0.mk (show Below w.heap.size w w3 from hw3 ▸ HB2.out.trans (Ch.chan_below hw2))
  clear hw3 BKC BD2 BA2 BN2 HB2 ha0 ha1
  go_upto_region 8 with (fail)
  refine Ch.wp_region_from ?_
  refine Ch.FromL.comm (w1 := w3) rfl ?rn (Ch.Comm.take (w1.heap.size + 1) 1 (#[].push (.agg #[.int .i64 a1_0, .slice A1_1 l1_1.length c1_1])) (0 + 1) 0 false (.agg #[.int .i64 0, .slice none 0 0]) BC3.out (by simp)) ?_
  case rn =>
    simp only [execOp]
    simp [take_zero]
    rfl
  refine Ch.FromL.ops ?_
  simp only [Act.put, List.setIfInBounds_toArray, List.set_cons_zero, List.set_cons_succ]
  obtain ⟨w4, hw4⟩ : ∃ w4, w4 = ({ w3 with heap := w3.heap.setIfInBounds (w1.heap.size + 1) (.chan 1 ((#[].push (.agg #[.int .i64 a1_0, .slice A1_1 l1_1.length c1_1])).extract 1 (#[].push (Value.agg #[.int .i64 a1_0, .slice A1_1 l1_1.length c1_1])).size) false (0 + 1) (0 + 1) false) } : World) := ⟨_, rfl⟩
  rw [← hw4]
  have BD4 := Aside0.mk (show w4.heap[w.heap.size]? = _ from hw4 ▸ Ch.chan_blk BC3.out BD3.out (by simp))
  have BN4 := Aside0.mk (show w4.heap[w.heap.size + 1 + 1]? = _ from hw4 ▸ Ch.chan_blk BC3.out BN3.out (by simp))
  have HB4 := Aside0.mk (show Below w.heap.size w w4 from hw4 ▸ HB3.out.trans (Ch.chan_below hw2))
  have hva : (#[].push (Value.agg #[.int .i64 a1_0, .slice A1_1 l1_1.length c1_1])).getD 0 undef = .agg #[.int .i64 a1_0, .slice A1_1 l1_1.length c1_1] := rfl
  rw [hva]
  have hfd := blk_frozen BD4.out 5
  have hd5 : w4.cell? ⟨w.heap.size, 5, none⟩ = some (.int .i64 a0_5) := (blk_cell BD4.out 5).trans rfl
  have hz4 := blk_lt BD4.out
  clear hw4 BC3 BD3 BN3 HB3 hw2 hmk HSV HG HN HB1
  go_upto_block 0 with (fail)
  go_cut [5, 6] (fun v5 v6 wc => ∃ v9 : Value, v5 = v9 ∧ v6 = .bool false ∧ Aside0 (wc.heap[w.heap.size + 1 + 1]? = some (.cells #[.int .i64 r1, .int .i64 r2, .bool r3, .int .i64 r4, .int .i64 r5, .int .i64 r6, .bool r7, .int .i64 r8, .int .i64 r9] 24 (0, 0))) ∧ Aside0 (Kd.R k55 55 wc w.heap.size (fun _ => True) v9 r10) ∧ Aside0 (Below w.heap.size w wc))
  case first =>
    go_upto_region 12 with (fail)
    obtain ⟨gx, hgx⟩ : ∃ gx, gx = w4.heap.size := ⟨_, rfl⟩
    obtain ⟨w5, hw5⟩ : ∃ w5, w5 = ((w4.setCell ⟨w.heap.size, 5, none⟩ (.int .i64 0)).alloc (.cells #[.int .i64 a1_0, .slice A1_1 l1_1.length c1_1] 27 (0, 0))) := ⟨_, rfl⟩
    have BD5 := Aside0.mk (show w5.heap[w.heap.size]? = some (.cells #[.int .i64 a0_0, .int .i64 a0_1, .bool a0_2, .int .i64 a0_3, .int .i64 a0_4, .int .i64 0, .bool a0_6, .int .i64 a0_7, .int .i64 a0_8] 24 (0, 0)) from hw5 ▸ blk_alloc (blk_put BD4.out 5 _ rfl) _)
    have BN5 := Aside0.mk (show w5.heap[w.heap.size + 1 + 1]? = _ from hw5 ▸ blk_alloc (blk_far BN4.out (show w.heap.size + 1 + 1 ≠ w.heap.size by omega) _) _)
    have BX5 := Aside0.mk (show w5.heap[gx]? = some (.cells #[.int .i64 a1_0, .slice A1_1 l1_1.length c1_1] 27 (0, 0)) from by rw [hw5, hgx]; have := blk_new (w4.setCell ⟨w.heap.size, 5, none⟩ (.int .i64 0)) (.cells #[.int .i64 a1_0, .slice A1_1 l1_1.length c1_1] 27 (0, 0)); simpa [World.setCell] using this)
    have HB5 := Aside0.mk (show Below w.heap.size w w5 from hw5 ▸ below_alloc (below_set HB4.out (Nat.le_refl _)) _)
    have gz3 : w.heap.size + 1 + 1 < gx := hgx ▸ blk_lt BN4.out
    rw [← hw5, ← hgx]
    have hN1 : w.heap.size ≠ w.heap.size + 1 + 1 := by omega
    have hN2 : gx ≠ w.heap.size + 1 + 1 := by omega
    have hGE : w.heap.size ≤ w.heap.size + 1 + 1 := by omega
    have hS5 : (fun w' : World => w'.cell? ⟨w.heap.size, 0, none⟩ = some (.int .i64 a0_0) ∧ w'.cell? ⟨w.heap.size, 1, none⟩ = some (.int .i64 a0_1) ∧ w'.cell? ⟨w.heap.size, 2, none⟩ = some (.bool a0_2) ∧ w'.cell? ⟨w.heap.size, 3, none⟩ = some (.int .i64 a0_3) ∧ w'.cell? ⟨w.heap.size, 4, none⟩ = some (.int .i64 a0_4) ∧ w'.cell? ⟨w.heap.size, 5, none⟩ = some (.int .i64 0) ∧ w'.cell? ⟨w.heap.size, 6, none⟩ = some (.bool a0_6) ∧ w'.cell? ⟨w.heap.size, 7, none⟩ = some (.int .i64 a0_7) ∧ w'.cell? ⟨w.heap.size, 8, none⟩ = some (.int .i64 a0_8) ∧ w'.cell? ⟨gx, 0, none⟩ = some (.int .i64 a1_0) ∧ w'.cell? ⟨gx, 1, none⟩ = some (.slice A1_1 l1_1.length c1_1)) w5.drew := Sq.j9 (blk_drew BD5.out) (Sq.c2 (blk_drew BX5.out))
    have hfl : ∀ (tx : Value) (W : World), (Instr.field 83 (.agg #[tx, .func (.func 55) #[] #[]]) 1).run Try.prog W = .ok (.func (.func 55) #[] #[]) W := fun _ _ => by kernel_rfl
    clear hw5 hgx BD4 BN4 HB4 hfd hd5 hz4 hva gz3
    go_region_held3 (fun w' : World => w'.cell? ⟨w.heap.size, 0, none⟩ = some (.int .i64 a0_0) ∧ w'.cell? ⟨w.heap.size, 1, none⟩ = some (.int .i64 a0_1) ∧ w'.cell? ⟨w.heap.size, 2, none⟩ = some (.bool a0_2) ∧ w'.cell? ⟨w.heap.size, 3, none⟩ = some (.int .i64 a0_3) ∧ w'.cell? ⟨w.heap.size, 4, none⟩ = some (.int .i64 a0_4) ∧ w'.cell? ⟨w.heap.size, 5, none⟩ = some (.int .i64 0) ∧ w'.cell? ⟨w.heap.size, 6, none⟩ = some (.bool a0_6) ∧ w'.cell? ⟨w.heap.size, 7, none⟩ = some (.int .i64 a0_7) ∧ w'.cell? ⟨w.heap.size, 8, none⟩ = some (.int .i64 a0_8) ∧ w'.cell? ⟨gx, 0, none⟩ = some (.int .i64 a1_0) ∧ w'.cell? ⟨gx, 1, none⟩ = some (.slice A1_1 l1_1.length c1_1)) (first | with_reducible assumption | with_reducible exact Tk.keep11s hN1 hN2 (by with_reducible assumption)) (first | (go_at_call 33; ((with_reducible refine (Dr.table_tab _).mono ?_); rintro e' w6 ⟨n6, ht, rfl⟩; have hS6 := Tk.keep11 ht.below hS5; obtain ⟨s6, tx6, hf6⟩ := HROW.out n6; have hlk : (Instr.lookup 85 (.map (some (n6 + 1))) (.int .i64 a0_4) false).run Try.prog w6 = .ok (.agg #[tx6, .func (.func 55) #[] #[]]) w6 := Dr.look_row ht.map a0_4 s6 _ false hf6; clear hf6; have HB6 := Aside0.mk (below_step (below_drew1 HB5.out) ht.below); have BN6 := Aside0.mk (blk_below (blk_drew BN5.out) ht.below); clear ht)) | (go_at_call 55; ((with_reducible refine (drv_counted.calls _ _ _ _ _ _ _ _ _ _ _ _ _ _ _ _ _ _ _ _ _ _ _ (Kd.C_below HR.out HB6.out) HC.out HCL.out).mono ?_); rintro e' w7 ⟨v9, rfl, h9, hb7⟩; have hS7 := Tk.keep11 hb7 hS6; have HB7 := Aside0.mk (below_step HB6.out hb7); have BN7 := Aside0.mk (blk_below BN6.out hb7); have H9 := Aside0.mk (Kd.R_lower (h9) HB6.out.size); clear h9 hb7; obtain ⟨hn0, hn1, hn2, hn3, hn4, hn5, hn6, hn7, hn8⟩ := Sq.c9 BN7.out; obtain ⟨hfn0, hfn1, hfn2, hfn3, hfn4, hfn5, hfn6, hfn7, hfn8⟩ := Sq.f9 BN7.out)))
    go_wp2
    go_meet
    case rel => exact ⟨v9, rfl, rfl, ⟨Tk.put9 BN7.out⟩, ⟨Tk.R9 H9.out BN7.out (by decide)⟩, ⟨Tk.below9 HB7.out hGE⟩⟩
  case rest =>
    obtain ⟨v9, rfl, rfl, BN, H9, HB⟩ := hcut
    obtain ⟨hn0, hn1, hn2, hn3, hn4, hn5, hn6, hn7, hn8⟩ := Sq.c9 BN.out
    obtain ⟨hfn0, hfn1, hfn2, hfn3, hfn4, hfn5, hfn6, hfn7, hfn8⟩ := Sq.f9 BN.out
    go_wp2
    refine bodyPost_ret (v := .tuple #[.agg #[.int .i64 r1, .int .i64 r2, .bool r3, .int .i64 r4, .int .i64 r5, .int .i64 r6, .bool r7, .int .i64 r8, .int .i64 r9], u5, .bool false, .int .i64 0]) ?_ rfl ?_
    · refine Ch.results_ctttt (fn := Try.f18) (p := 4) (q := 5) (r := 6) (s := 7) (ty := 24) rfl _ _ (w.heap.size + 1 + 1) 24 #[.int .i64 r1, .int .i64 r2, .bool r3, .int .i64 r4, .int .i64 r5, .int .i64 r6, .bool r7, .int .i64 r8, .int .i64 r9] (0, 0) _ rfl (Tk.put9 BN.out) Try.underlying24 rfl (by kernel_rfl)
    · exact ⟨u5, rfl, Tk.R9 H9.out BN.out (by decide), Tk.below9 HB.out (by omega)⟩
set_option maxHeartbeats 4000000 in
set_option maxRecDepth 100000 in
theorem take_again (k : Nat) (a0_0 a0_1 : Int) (a0_2 : Bool) (a0_3 a0_4 a0_5 : Int) (a0_6 : Bool) (a0_7 a0_8 : Int) (r1 r2 : Int) (r3 : Bool) (r4 r5 r6 : Int) (r7 : Bool) (r8 r9 : Int) (r10 : List (S55)) (a1_0 : Int) (A1_1 : Option Addr) (c1_1 : Nat) (l1_1 : List Int) (n1 n2 : Int) (n3 : List Int) (n4 : Int) (w : World) (hr1_1 : Kd.C (Kd.int .u8) w A1_1 l1_1.length l1_1) (hc1_1 : l1_1.length ≤ c1_1)
  (hn : drv_Next.f a0_0 a0_1 a0_2 a0_3 a0_4 a0_5 a0_6 a0_7 a0_8 = some (n1, n2, n3, n4, true, 0)) (hg : drv_good.f k a0_0 a0_1 a0_2 a0_3 a0_4 a0_5 a0_6 a0_7 a0_8 n1 n2 n3 n4 a1_0 l1_1 = some true) (hrow : ∀ n, ∃ s tx, Instr.findNow (.int .i64) (.int .i64 a0_4) (Dr.tabRows n).toList 0 = some (some (s, .agg #[tx, .func (.func 59) #[] #[]]))) (hc : drv_again.f a0_0 a0_1 a0_2 a0_3 a0_4 0 a0_6 a0_7 a0_8 l1_1 = some (r1, r2, r3, r4, r5, r6, r7, r8, r9, r10)) :
    Calls Try.prog 18 #[.agg #[.int .i64 a0_0, .int .i64 a0_1, .bool a0_2, .int .i64 a0_3, .int .i64 a0_4, .int .i64 a0_5, .bool a0_6, .int .i64 a0_7, .int .i64 a0_8], .agg #[.int .i64 a1_0, .slice A1_1 l1_1.length c1_1]] w fun e w' => ∃ v9_ : Value, e = .returned (.tuple #[.agg #[.int .i64 r1, .int .i64 r2, .bool r3, .int .i64 r4, .int .i64 r5, .int .i64 r6, .bool r7, .int .i64 r8, .int .i64 r9], v9_, .bool false, .int .i64 0]) ∧ Kd.R k55 55 w' w.heap.size (fun _ => True) v9_ r10 ∧ Below w.heap.size w w' := by
  have HR := Aside0.mk hr1_1
  have HC := Aside0.mk hc1_1
  have HN := Aside0.mk hn
  have HG := Aside0.mk hg
  have HCL := Aside0.mk hc
  have HROW := Aside0.mk hrow
  clear hr1_1 hc1_1 hn hg hc hrow
  have hmk := take_mk
  go_enter Try.func18, Try.ntmps18
  go_upto_region 6 with (first | (go_at_call 9; (with_reducible refine (drv_Next.calls _ _ _ _ _ _ _ _ _ _ _ _ _ _ _ _ HN.out).mono ?_); rintro e w1 ⟨sv, rfl, hsv, hb1⟩; obtain ⟨A3, c3, rfl⟩ := Kd.R_slice hsv; have HSV := Aside0.mk hsv; obtain ⟨hD, hA, hN, hB, z1, z2, z3, z4, z5, z6⟩ := Tk.three hb1; have BKD := Aside0.mk hD; have BKA := Aside0.mk hA; have BKN := Aside0.mk hN; have HB1 := Aside0.mk hB; clear hsv hb1 hD hA hN hB; obtain ⟨hd0, hd1, hd2, hd3, hd4, hd5, hd6, hd7, hd8⟩ := Sq.c9 BKD.out; obtain ⟨ha0, ha1⟩ := Sq.c2 BKA.out) | (go_at_call 35; (with_reducible refine (drv_good.calls k _ _ _ _ _ _ _ _ _ _ _ _ _ _ _ _ _ _ _ _ _ (Kd.C_alloc (Kd.C_alloc (Kd.R_reads' HSV.out).2.2 _) _) (Kd.R_reads' HSV.out).2.1 (Kd.C_alloc (Kd.C_alloc (Kd.C_below HR.out HB1.out) _) _) HC.out HG.out).mono ?_); rintro e w2 ⟨rfl, hb2⟩; have BKC := Aside0.mk (blk_below (blk_new (w1.alloc (.cells #[.int .i64 n1, .int .i64 n2, .slice A3 n3.length c3, .int .i64 n4] 31 (0, 0))) (.chan 1 #[] false 0 0 false)) hb2); simp only [World.size_alloc] at BKC; have BD2 := Aside0.mk (blk_below (blk_alloc (blk_alloc BKD.out _) _) hb2); have BA2 := Aside0.mk (blk_below (blk_alloc (blk_alloc BKA.out _) _) hb2); have BN2 := Aside0.mk (blk_below (blk_alloc (blk_alloc BKN.out _) _) hb2); have HB2 := Aside0.mk (below_step (below_alloc (below_alloc HB1.out _) _) hb2); clear hb2; have hg2 := HB1.out.size; have hw2 : w.heap.size ≤ w1.heap.size + 1 := (by omega); clear hg2 hd0 hd1 hd2 hd3 hd4 hd5 hd6 hd7 hd8 ha0 ha1 z1 z2 z3 z4 z5 z6 BKD BKA BKN; obtain ⟨ha0, ha1⟩ := Sq.c2 BA2.out))
  refine Ch.wp_region_from ?_
  refine Ch.FromL.value (v := .chan (some (w1.heap.size + 1))) (w' := w2) rfl rfl ?_
  simp only [Act.put, List.setIfInBounds_toArray, List.set_cons_zero, List.set_cons_succ]
  refine Ch.FromL.value (v := .agg #[.int .i64 a1_0, .slice A1_1 l1_1.length c1_1]) (w' := w2) rfl ?ld ?_
  case ld => go_simp
  simp only [Act.put, List.setIfInBounds_toArray, List.set_cons_zero, List.set_cons_succ]
  refine Ch.FromL.comm (w1 := w2) rfl rfl (Ch.Comm.send (w1.heap.size + 1) 1 #[] 0 0 false (.agg #[.int .i64 a1_0, .slice A1_1 l1_1.length c1_1]) (.tuple #[]) BKC.out (by decide)) ?_
  refine Ch.FromL.ops ?_
  obtain ⟨w3, hw3⟩ : ∃ w3, w3 = ({ w2 with heap := w2.heap.setIfInBounds (w1.heap.size + 1) (.chan 1 (#[].push (.agg #[.int .i64 a1_0, .slice A1_1 l1_1.length c1_1])) false (0 + 1) 0 false) } : World) := ⟨_, rfl⟩
  rw [← hw3]
  have BD3 := Aside0.mk (show w3.heap[w.heap.size]? = _ from hw3 ▸ Ch.chan_blk BKC.out BD2.out (by simp))
  have BN3 := Aside0.mk (show w3.heap[w.heap.size + 1 + 1]? = _ from hw3 ▸ Ch.chan_blk BKC.out BN2.out (by simp))
  have BC3 := Aside0.mk (show w3.heap[w1.heap.size + 1]? = _ from hw3 ▸ Ch.chan_same BKC.out)
  have HB3 := Aside0.mk (show Below w.heap.size w w3 from hw3 ▸ HB2.out.trans (Ch.chan_below hw2))
  clear hw3 BKC BD2 BA2 BN2 HB2 ha0 ha1
  go_upto_region 8 with (fail)
  refine Ch.wp_region_from ?_
  refine Ch.FromL.comm (w1 := w3) rfl ?rn (Ch.Comm.take (w1.heap.size + 1) 1 (#[].push (.agg #[.int .i64 a1_0, .slice A1_1 l1_1.length c1_1])) (0 + 1) 0 false (.agg #[.int .i64 0, .slice none 0 0]) BC3.out (by simp)) ?_
  case rn =>
    simp only [execOp]
    simp [take_zero]
    rfl
  refine Ch.FromL.ops ?_
  simp only [Act.put, List.setIfInBounds_toArray, List.set_cons_zero, List.set_cons_succ]
  obtain ⟨w4, hw4⟩ : ∃ w4, w4 = ({ w3 with heap := w3.heap.setIfInBounds (w1.heap.size + 1) (.chan 1 ((#[].push (.agg #[.int .i64 a1_0, .slice A1_1 l1_1.length c1_1])).extract 1 (#[].push (Value.agg #[.int .i64 a1_0, .slice A1_1 l1_1.length c1_1])).size) false (0 + 1) (0 + 1) false) } : World) := ⟨_, rfl⟩
  rw [← hw4]
  have BD4 := Aside0.mk (show w4.heap[w.heap.size]? = _ from hw4 ▸ Ch.chan_blk BC3.out BD3.out (by simp))
  have BN4 := Aside0.mk (show w4.heap[w.heap.size + 1 + 1]? = _ from hw4 ▸ Ch.chan_blk BC3.out BN3.out (by simp))
  have HB4 := Aside0.mk (show Below w.heap.size w w4 from hw4 ▸ HB3.out.trans (Ch.chan_below hw2))
  have hva : (#[].push (Value.agg #[.int .i64 a1_0, .slice A1_1 l1_1.length c1_1])).getD 0 undef = .agg #[.int .i64 a1_0, .slice A1_1 l1_1.length c1_1] := rfl
  rw [hva]
  have hfd := blk_frozen BD4.out 5
  have hd5 : w4.cell? ⟨w.heap.size, 5, none⟩ = some (.int .i64 a0_5) := (blk_cell BD4.out 5).trans rfl
  have hz4 := blk_lt BD4.out
  clear hw4 BC3 BD3 BN3 HB3 hw2 hmk HSV HG HN HB1
  go_upto_block 0 with (fail)
  go_cut [5, 6] (fun v5 v6 wc => ∃ v9 : Value, v5 = v9 ∧ v6 = .bool false ∧ Aside0 (wc.heap[w.heap.size + 1 + 1]? = some (.cells #[.int .i64 r1, .int .i64 r2, .bool r3, .int .i64 r4, .int .i64 r5, .int .i64 r6, .bool r7, .int .i64 r8, .int .i64 r9] 24 (0, 0))) ∧ Aside0 (Kd.R k55 55 wc w.heap.size (fun _ => True) v9 r10) ∧ Aside0 (Below w.heap.size w wc))
  case first =>
    go_upto_region 12 with (fail)
    obtain ⟨gx, hgx⟩ : ∃ gx, gx = w4.heap.size := ⟨_, rfl⟩
    obtain ⟨w5, hw5⟩ : ∃ w5, w5 = ((w4.setCell ⟨w.heap.size, 5, none⟩ (.int .i64 0)).alloc (.cells #[.int .i64 a1_0, .slice A1_1 l1_1.length c1_1] 27 (0, 0))) := ⟨_, rfl⟩
    have BD5 := Aside0.mk (show w5.heap[w.heap.size]? = some (.cells #[.int .i64 a0_0, .int .i64 a0_1, .bool a0_2, .int .i64 a0_3, .int .i64 a0_4, .int .i64 0, .bool a0_6, .int .i64 a0_7, .int .i64 a0_8] 24 (0, 0)) from hw5 ▸ blk_alloc (blk_put BD4.out 5 _ rfl) _)
    have BN5 := Aside0.mk (show w5.heap[w.heap.size + 1 + 1]? = _ from hw5 ▸ blk_alloc (blk_far BN4.out (show w.heap.size + 1 + 1 ≠ w.heap.size by omega) _) _)
    have BX5 := Aside0.mk (show w5.heap[gx]? = some (.cells #[.int .i64 a1_0, .slice A1_1 l1_1.length c1_1] 27 (0, 0)) from by rw [hw5, hgx]; have := blk_new (w4.setCell ⟨w.heap.size, 5, none⟩ (.int .i64 0)) (.cells #[.int .i64 a1_0, .slice A1_1 l1_1.length c1_1] 27 (0, 0)); simpa [World.setCell] using this)
    have HB5 := Aside0.mk (show Below w.heap.size w w5 from hw5 ▸ below_alloc (below_set HB4.out (Nat.le_refl _)) _)
    have gz3 : w.heap.size + 1 + 1 < gx := hgx ▸ blk_lt BN4.out
    rw [← hw5, ← hgx]
    have hN1 : w.heap.size ≠ w.heap.size + 1 + 1 := by omega
    have hN2 : gx ≠ w.heap.size + 1 + 1 := by omega
    have hGE : w.heap.size ≤ w.heap.size + 1 + 1 := by omega
    have hS5 : (fun w' : World => w'.cell? ⟨w.heap.size, 0, none⟩ = some (.int .i64 a0_0) ∧ w'.cell? ⟨w.heap.size, 1, none⟩ = some (.int .i64 a0_1) ∧ w'.cell? ⟨w.heap.size, 2, none⟩ = some (.bool a0_2) ∧ w'.cell? ⟨w.heap.size, 3, none⟩ = some (.int .i64 a0_3) ∧ w'.cell? ⟨w.heap.size, 4, none⟩ = some (.int .i64 a0_4) ∧ w'.cell? ⟨w.heap.size, 5, none⟩ = some (.int .i64 0) ∧ w'.cell? ⟨w.heap.size, 6, none⟩ = some (.bool a0_6) ∧ w'.cell? ⟨w.heap.size, 7, none⟩ = some (.int .i64 a0_7) ∧ w'.cell? ⟨w.heap.size, 8, none⟩ = some (.int .i64 a0_8) ∧ w'.cell? ⟨gx, 0, none⟩ = some (.int .i64 a1_0) ∧ w'.cell? ⟨gx, 1, none⟩ = some (.slice A1_1 l1_1.length c1_1)) w5.drew := Sq.j9 (blk_drew BD5.out) (Sq.c2 (blk_drew BX5.out))
    have hfl : ∀ (tx : Value) (W : World), (Instr.field 83 (.agg #[tx, .func (.func 59) #[] #[]]) 1).run Try.prog W = .ok (.func (.func 59) #[] #[]) W := fun _ _ => by kernel_rfl
    clear hw5 hgx BD4 BN4 HB4 hfd hd5 hz4 hva gz3
    go_region_held3 (fun w' : World => w'.cell? ⟨w.heap.size, 0, none⟩ = some (.int .i64 a0_0) ∧ w'.cell? ⟨w.heap.size, 1, none⟩ = some (.int .i64 a0_1) ∧ w'.cell? ⟨w.heap.size, 2, none⟩ = some (.bool a0_2) ∧ w'.cell? ⟨w.heap.size, 3, none⟩ = some (.int .i64 a0_3) ∧ w'.cell? ⟨w.heap.size, 4, none⟩ = some (.int .i64 a0_4) ∧ w'.cell? ⟨w.heap.size, 5, none⟩ = some (.int .i64 0) ∧ w'.cell? ⟨w.heap.size, 6, none⟩ = some (.bool a0_6) ∧ w'.cell? ⟨w.heap.size, 7, none⟩ = some (.int .i64 a0_7) ∧ w'.cell? ⟨w.heap.size, 8, none⟩ = some (.int .i64 a0_8) ∧ w'.cell? ⟨gx, 0, none⟩ = some (.int .i64 a1_0) ∧ w'.cell? ⟨gx, 1, none⟩ = some (.slice A1_1 l1_1.length c1_1)) (first | with_reducible assumption | with_reducible exact Tk.keep11s hN1 hN2 (by with_reducible assumption)) (first | (go_at_call 33; ((with_reducible refine (Dr.table_tab _).mono ?_); rintro e' w6 ⟨n6, ht, rfl⟩; have hS6 := Tk.keep11 ht.below hS5; obtain ⟨s6, tx6, hf6⟩ := HROW.out n6; have hlk : (Instr.lookup 85 (.map (some (n6 + 1))) (.int .i64 a0_4) false).run Try.prog w6 = .ok (.agg #[tx6, .func (.func 59) #[] #[]]) w6 := Dr.look_row ht.map a0_4 s6 _ false hf6; clear hf6; have HB6 := Aside0.mk (below_step (below_drew1 HB5.out) ht.below); have BN6 := Aside0.mk (blk_below (blk_drew BN5.out) ht.below); clear ht)) | (go_at_call 59; ((with_reducible refine (drv_again.calls _ _ _ _ _ _ _ _ _ _ _ _ _ _ _ _ _ _ _ _ _ _ _ (Kd.C_below HR.out HB6.out) HC.out HCL.out).mono ?_); rintro e' w7 ⟨v9, rfl, h9, hb7⟩; have hS7 := Tk.keep11 hb7 hS6; have HB7 := Aside0.mk (below_step HB6.out hb7); have BN7 := Aside0.mk (blk_below BN6.out hb7); have H9 := Aside0.mk (Kd.R_lower (h9) HB6.out.size); clear h9 hb7; obtain ⟨hn0, hn1, hn2, hn3, hn4, hn5, hn6, hn7, hn8⟩ := Sq.c9 BN7.out; obtain ⟨hfn0, hfn1, hfn2, hfn3, hfn4, hfn5, hfn6, hfn7, hfn8⟩ := Sq.f9 BN7.out)))
    go_wp2
    go_meet
    case rel => exact ⟨v9, rfl, rfl, ⟨Tk.put9 BN7.out⟩, ⟨Tk.R9 H9.out BN7.out (by decide)⟩, ⟨Tk.below9 HB7.out hGE⟩⟩
  case rest =>
    obtain ⟨v9, rfl, rfl, BN, H9, HB⟩ := hcut
    obtain ⟨hn0, hn1, hn2, hn3, hn4, hn5, hn6, hn7, hn8⟩ := Sq.c9 BN.out
    obtain ⟨hfn0, hfn1, hfn2, hfn3, hfn4, hfn5, hfn6, hfn7, hfn8⟩ := Sq.f9 BN.out
    go_wp2
    refine bodyPost_ret (v := .tuple #[.agg #[.int .i64 r1, .int .i64 r2, .bool r3, .int .i64 r4, .int .i64 r5, .int .i64 r6, .bool r7, .int .i64 r8, .int .i64 r9], u5, .bool false, .int .i64 0]) ?_ rfl ?_
    · refine Ch.results_ctttt (fn := Try.f18) (p := 4) (q := 5) (r := 6) (s := 7) (ty := 24) rfl _ _ (w.heap.size + 1 + 1) 24 #[.int .i64 r1, .int .i64 r2, .bool r3, .int .i64 r4, .int .i64 r5, .int .i64 r6, .bool r7, .int .i64 r8, .int .i64 r9] (0, 0) _ rfl (Tk.put9 BN.out) Try.underlying24 rfl (by kernel_rfl)
    · exact ⟨u5, rfl, Tk.R9 H9.out BN.out (by decide), Tk.below9 HB.out (by omega)⟩
set_option maxHeartbeats 4000000 in
set_option maxRecDepth 100000 in
theorem take_samples (k : Nat) (a0_0 a0_1 : Int) (a0_2 : Bool) (a0_3 a0_4 a0_5 : Int) (a0_6 : Bool) (a0_7 a0_8 : Int) (r1 r2 : Int) (r3 : Bool) (r4 r5 r6 : Int) (r7 : Bool) (r8 r9 : Int) (r10 : List (S55)) (a1_0 : Int) (A1_1 : Option Addr) (c1_1 : Nat) (l1_1 : List Int) (n1 n2 : Int) (n3 : List Int) (n4 : Int) (w : World) (hr1_1 : Kd.C (Kd.int .u8) w A1_1 l1_1.length l1_1) (hc1_1 : l1_1.length ≤ c1_1)
  (hn : drv_Next.f a0_0 a0_1 a0_2 a0_3 a0_4 a0_5 a0_6 a0_7 a0_8 = some (n1, n2, n3, n4, true, 0)) (hg : drv_good.f k a0_0 a0_1 a0_2 a0_3 a0_4 a0_5 a0_6 a0_7 a0_8 n1 n2 n3 n4 a1_0 l1_1 = some true) (hrow : ∀ n, ∃ s tx, Instr.findNow (.int .i64) (.int .i64 a0_4) (Dr.tabRows n).toList 0 = some (some (s, .agg #[tx, .func (.func 57) #[] #[]]))) (hc : drv_samples.f k a0_0 a0_1 a0_2 a0_3 a0_4 0 a0_6 a0_7 a0_8 l1_1 = some (r1, r2, r3, r4, r5, r6, r7, r8, r9, r10)) :
    Calls Try.prog 18 #[.agg #[.int .i64 a0_0, .int .i64 a0_1, .bool a0_2, .int .i64 a0_3, .int .i64 a0_4, .int .i64 a0_5, .bool a0_6, .int .i64 a0_7, .int .i64 a0_8], .agg #[.int .i64 a1_0, .slice A1_1 l1_1.length c1_1]] w fun e w' => ∃ v9_ : Value, e = .returned (.tuple #[.agg #[.int .i64 r1, .int .i64 r2, .bool r3, .int .i64 r4, .int .i64 r5, .int .i64 r6, .bool r7, .int .i64 r8, .int .i64 r9], v9_, .bool false, .int .i64 0]) ∧ Kd.R k55 55 w' w.heap.size (fun _ => True) v9_ r10 ∧ Below w.heap.size w w' := by
  have HR := Aside0.mk hr1_1
  have HC := Aside0.mk hc1_1
  have HN := Aside0.mk hn
  have HG := Aside0.mk hg
  have HCL := Aside0.mk hc
  have HROW := Aside0.mk hrow
  clear hr1_1 hc1_1 hn hg hc hrow
  have hmk := take_mk
  go_enter Try.func18, Try.ntmps18
  go_upto_region 6 with (first | (go_at_call 9; (with_reducible refine (drv_Next.calls _ _ _ _ _ _ _ _ _ _ _ _ _ _ _ _ HN.out).mono ?_); rintro e w1 ⟨sv, rfl, hsv, hb1⟩; obtain ⟨A3, c3, rfl⟩ := Kd.R_slice hsv; have HSV := Aside0.mk hsv; obtain ⟨hD, hA, hN, hB, z1, z2, z3, z4, z5, z6⟩ := Tk.three hb1; have BKD := Aside0.mk hD; have BKA := Aside0.mk hA; have BKN := Aside0.mk hN; have HB1 := Aside0.mk hB; clear hsv hb1 hD hA hN hB; obtain ⟨hd0, hd1, hd2, hd3, hd4, hd5, hd6, hd7, hd8⟩ := Sq.c9 BKD.out; obtain ⟨ha0, ha1⟩ := Sq.c2 BKA.out) | (go_at_call 35; (with_reducible refine (drv_good.calls k _ _ _ _ _ _ _ _ _ _ _ _ _ _ _ _ _ _ _ _ _ (Kd.C_alloc (Kd.C_alloc (Kd.R_reads' HSV.out).2.2 _) _) (Kd.R_reads' HSV.out).2.1 (Kd.C_alloc (Kd.C_alloc (Kd.C_below HR.out HB1.out) _) _) HC.out HG.out).mono ?_); rintro e w2 ⟨rfl, hb2⟩; have BKC := Aside0.mk (blk_below (blk_new (w1.alloc (.cells #[.int .i64 n1, .int .i64 n2, .slice A3 n3.length c3, .int .i64 n4] 31 (0, 0))) (.chan 1 #[] false 0 0 false)) hb2); simp only [World.size_alloc] at BKC; have BD2 := Aside0.mk (blk_below (blk_alloc (blk_alloc BKD.out _) _) hb2); have BA2 := Aside0.mk (blk_below (blk_alloc (blk_alloc BKA.out _) _) hb2); have BN2 := Aside0.mk (blk_below (blk_alloc (blk_alloc BKN.out _) _) hb2); have HB2 := Aside0.mk (below_step (below_alloc (below_alloc HB1.out _) _) hb2); clear hb2; have hg2 := HB1.out.size; have hw2 : w.heap.size ≤ w1.heap.size + 1 := (by omega); clear hg2 hd0 hd1 hd2 hd3 hd4 hd5 hd6 hd7 hd8 ha0 ha1 z1 z2 z3 z4 z5 z6 BKD BKA BKN; obtain ⟨ha0, ha1⟩ := Sq.c2 BA2.out))
  refine Ch.wp_region_from ?_
  refine Ch.FromL.value (v := .chan (some (w1.heap.size + 1))) (w' := w2) rfl rfl ?_
  simp only [Act.put, List.setIfInBounds_toArray, List.set_cons_zero, List.set_cons_succ]
  refine Ch.FromL.value (v := .agg #[.int .i64 a1_0, .slice A1_1 l1_1.length c1_1]) (w' := w2) rfl ?ld ?_
  case ld => go_simp
  simp only [Act.put, List.setIfInBounds_toArray, List.set_cons_zero, List.set_cons_succ]
  refine Ch.FromL.comm (w1 := w2) rfl rfl (Ch.Comm.send (w1.heap.size + 1) 1 #[] 0 0 false (.agg #[.int .i64 a1_0, .slice A1_1 l1_1.length c1_1]) (.tuple #[]) BKC.out (by decide)) ?_
  refine Ch.FromL.ops ?_
  obtain ⟨w3, hw3⟩ : ∃ w3, w3 = ({ w2 with heap := w2.heap.setIfInBounds (w1.heap.size + 1) (.chan 1 (#[].push (.agg #[.int .i64 a1_0, .slice A1_1 l1_1.length c1_1])) false (0 + 1) 0 false) } : World) := ⟨_, rfl⟩
  rw [← hw3]
  have BD3 := Aside0.mk (show w3.heap[w.heap.size]? = _ from hw3 ▸ Ch.chan_blk BKC.out BD2.out (by simp))
  have BN3 := Aside0.mk (show w3.heap[w.heap.size + 1 + 1]? = _ from hw3 ▸ Ch.chan_blk BKC.out BN2.out (by simp))
  have BC3 := Aside0.mk (show w3.heap[w1.heap.size + 1]? = _ from hw3 ▸ Ch.chan_same BKC.out)
  have HB3 := Aside0.mk (show Below w.heap.size w w3 from hw3 ▸ HB2.out.trans (Ch.chan_below hw2))
  clear hw3 BKC BD2 BA2 BN2 HB2 ha0 ha1
  go_upto_region 8 with (fail)
  refine Ch.wp_region_from ?_
  refine Ch.FromL.comm (w1 := w3) rfl ?rn (Ch.Comm.take (w1.heap.size + 1) 1 (#[].push (.agg #[.int .i64 a1_0, .slice A1_1 l1_1.length c1_1])) (0 + 1) 0 false (.agg #[.int .i64 0, .slice none 0 0]) BC3.out (by simp)) ?_
  case rn =>
    simp only [execOp]
    simp [take_zero]
    rfl
  refine Ch.FromL.ops ?_
  simp only [Act.put, List.setIfInBounds_toArray, List.set_cons_zero, List.set_cons_succ]
  obtain ⟨w4, hw4⟩ : ∃ w4, w4 = ({ w3 with heap := w3.heap.setIfInBounds (w1.heap.size + 1) (.chan 1 ((#[].push (.agg #[.int .i64 a1_0, .slice A1_1 l1_1.length c1_1])).extract 1 (#[].push (Value.agg #[.int .i64 a1_0, .slice A1_1 l1_1.length c1_1])).size) false (0 + 1) (0 + 1) false) } : World) := ⟨_, rfl⟩
  rw [← hw4]
  have BD4 := Aside0.mk (show w4.heap[w.heap.size]? = _ from hw4 ▸ Ch.chan_blk BC3.out BD3.out (by simp))
  have BN4 := Aside0.mk (show w4.heap[w.heap.size + 1 + 1]? = _ from hw4 ▸ Ch.chan_blk BC3.out BN3.out (by simp))
  have HB4 := Aside0.mk (show Below w.heap.size w w4 from hw4 ▸ HB3.out.trans (Ch.chan_below hw2))
  have hva : (#[].push (Value.agg #[.int .i64 a1_0, .slice A1_1 l1_1.length c1_1])).getD 0 undef = .agg #[.int .i64 a1_0, .slice A1_1 l1_1.length c1_1] := rfl
  rw [hva]
  have hfd := blk_frozen BD4.out 5
  have hd5 : w4.cell? ⟨w.heap.size, 5, none⟩ = some (.int .i64 a0_5) := (blk_cell BD4.out 5).trans rfl
  have hz4 := blk_lt BD4.out
  clear hw4 BC3 BD3 BN3 HB3 hw2 hmk HSV HG HN HB1
  go_upto_block 0 with (fail)
  go_cut [5, 6] (fun v5 v6 wc => ∃ v9 : Value, v5 = v9 ∧ v6 = .bool false ∧ Aside0 (wc.heap[w.heap.size + 1 + 1]? = some (.cells #[.int .i64 r1, .int .i64 r2, .bool r3, .int .i64 r4, .int .i64 r5, .int .i64 r6, .bool r7, .int .i64 r8, .int .i64 r9] 24 (0, 0))) ∧ Aside0 (Kd.R k55 55 wc w.heap.size (fun _ => True) v9 r10) ∧ Aside0 (Below w.heap.size w wc))
  case first =>
    go_upto_region 12 with (fail)
    obtain ⟨gx, hgx⟩ : ∃ gx, gx = w4.heap.size := ⟨_, rfl⟩
    obtain ⟨w5, hw5⟩ : ∃ w5, w5 = ((w4.setCell ⟨w.heap.size, 5, none⟩ (.int .i64 0)).alloc (.cells #[.int .i64 a1_0, .slice A1_1 l1_1.length c1_1] 27 (0, 0))) := ⟨_, rfl⟩
    have BD5 := Aside0.mk (show w5.heap[w.heap.size]? = some (.cells #[.int .i64 a0_0, .int .i64 a0_1, .bool a0_2, .int .i64 a0_3, .int .i64 a0_4, .int .i64 0, .bool a0_6, .int .i64 a0_7, .int .i64 a0_8] 24 (0, 0)) from hw5 ▸ blk_alloc (blk_put BD4.out 5 _ rfl) _)
    have BN5 := Aside0.mk (show w5.heap[w.heap.size + 1 + 1]? = _ from hw5 ▸ blk_alloc (blk_far BN4.out (show w.heap.size + 1 + 1 ≠ w.heap.size by omega) _) _)
    have BX5 := Aside0.mk (show w5.heap[gx]? = some (.cells #[.int .i64 a1_0, .slice A1_1 l1_1.length c1_1] 27 (0, 0)) from by rw [hw5, hgx]; have := blk_new (w4.setCell ⟨w.heap.size, 5, none⟩ (.int .i64 0)) (.cells #[.int .i64 a1_0, .slice A1_1 l1_1.length c1_1] 27 (0, 0)); simpa [World.setCell] using this)
    have HB5 := Aside0.mk (show Below w.heap.size w w5 from hw5 ▸ below_alloc (below_set HB4.out (Nat.le_refl _)) _)
    have gz3 : w.heap.size + 1 + 1 < gx := hgx ▸ blk_lt BN4.out
    rw [← hw5, ← hgx]
    have hN1 : w.heap.size ≠ w.heap.size + 1 + 1 := by omega
    have hN2 : gx ≠ w.heap.size + 1 + 1 := by omega
    have hGE : w.heap.size ≤ w.heap.size + 1 + 1 := by omega
    have hS5 : (fun w' : World => w'.cell? ⟨w.heap.size, 0, none⟩ = some (.int .i64 a0_0) ∧ w'.cell? ⟨w.heap.size, 1, none⟩ = some (.int .i64 a0_1) ∧ w'.cell? ⟨w.heap.size, 2, none⟩ = some (.bool a0_2) ∧ w'.cell? ⟨w.heap.size, 3, none⟩ = some (.int .i64 a0_3) ∧ w'.cell? ⟨w.heap.size, 4, none⟩ = some (.int .i64 a0_4) ∧ w'.cell? ⟨w.heap.size, 5, none⟩ = some (.int .i64 0) ∧ w'.cell? ⟨w.heap.size, 6, none⟩ = some (.bool a0_6) ∧ w'.cell? ⟨w.heap.size, 7, none⟩ = some (.int .i64 a0_7) ∧ w'.cell? ⟨w.heap.size, 8, none⟩ = some (.int .i64 a0_8) ∧ w'.cell? ⟨gx, 0, none⟩ = some (.int .i64 a1_0) ∧ w'.cell? ⟨gx, 1, none⟩ = some (.slice A1_1 l1_1.length c1_1)) w5.drew := Sq.j9 (blk_drew BD5.out) (Sq.c2 (blk_drew BX5.out))
    have hfl : ∀ (tx : Value) (W : World), (Instr.field 83 (.agg #[tx, .func (.func 57) #[] #[]]) 1).run Try.prog W = .ok (.func (.func 57) #[] #[]) W := fun _ _ => by kernel_rfl
    clear hw5 hgx BD4 BN4 HB4 hfd hd5 hz4 hva gz3
    go_region_held3 (fun w' : World => w'.cell? ⟨w.heap.size, 0, none⟩ = some (.int .i64 a0_0) ∧ w'.cell? ⟨w.heap.size, 1, none⟩ = some (.int .i64 a0_1) ∧ w'.cell? ⟨w.heap.size, 2, none⟩ = some (.bool a0_2) ∧ w'.cell? ⟨w.heap.size, 3, none⟩ = some (.int .i64 a0_3) ∧ w'.cell? ⟨w.heap.size, 4, none⟩ = some (.int .i64 a0_4) ∧ w'.cell? ⟨w.heap.size, 5, none⟩ = some (.int .i64 0) ∧ w'.cell? ⟨w.heap.size, 6, none⟩ = some (.bool a0_6) ∧ w'.cell? ⟨w.heap.size, 7, none⟩ = some (.int .i64 a0_7) ∧ w'.cell? ⟨w.heap.size, 8, none⟩ = some (.int .i64 a0_8) ∧ w'.cell? ⟨gx, 0, none⟩ = some (.int .i64 a1_0) ∧ w'.cell? ⟨gx, 1, none⟩ = some (.slice A1_1 l1_1.length c1_1)) (first | with_reducible assumption | with_reducible exact Tk.keep11s hN1 hN2 (by with_reducible assumption)) (first | (go_at_call 33; ((with_reducible refine (Dr.table_tab _).mono ?_); rintro e' w6 ⟨n6, ht, rfl⟩; have hS6 := Tk.keep11 ht.below hS5; obtain ⟨s6, tx6, hf6⟩ := HROW.out n6; have hlk : (Instr.lookup 85 (.map (some (n6 + 1))) (.int .i64 a0_4) false).run Try.prog w6 = .ok (.agg #[tx6, .func (.func 57) #[] #[]]) w6 := Dr.look_row ht.map a0_4 s6 _ false hf6; clear hf6; have HB6 := Aside0.mk (below_step (below_drew1 HB5.out) ht.below); have BN6 := Aside0.mk (blk_below (blk_drew BN5.out) ht.below); clear ht)) | (go_at_call 57; ((with_reducible refine (drv_samples.calls k _ _ _ _ _ _ _ _ _ (fun k_ => k_ < w6.heap.size) _ _ _ _ _ _ _ _ _ _ _ _ _ _ (Kd.V_mk HC.out (Kd.C_F (Kd.heap_int _) (Kd.C_below HR.out HB6.out))) HCL.out).mono ?_); rintro e' w7 ⟨v9, rfl, h9, hb7⟩; have hS7 := Tk.keep11 hb7 hS6; have HB7 := Aside0.mk (below_step HB6.out hb7); have BN7 := Aside0.mk (blk_below BN6.out hb7); have H9 := Aside0.mk (Kd.R_lower (Kd.R_mono h9 (ok' := fun _ => True) (fun _ _ => trivial)) HB6.out.size); clear h9 hb7; obtain ⟨hn0, hn1, hn2, hn3, hn4, hn5, hn6, hn7, hn8⟩ := Sq.c9 BN7.out; obtain ⟨hfn0, hfn1, hfn2, hfn3, hfn4, hfn5, hfn6, hfn7, hfn8⟩ := Sq.f9 BN7.out)))
    go_wp2
    go_meet
    case rel => exact ⟨v9, rfl, rfl, ⟨Tk.put9 BN7.out⟩, ⟨Tk.R9 H9.out BN7.out (by decide)⟩, ⟨Tk.below9 HB7.out hGE⟩⟩
  case rest =>
    obtain ⟨v9, rfl, rfl, BN, H9, HB⟩ := hcut
    obtain ⟨hn0, hn1, hn2, hn3, hn4, hn5, hn6, hn7, hn8⟩ := Sq.c9 BN.out
    obtain ⟨hfn0, hfn1, hfn2, hfn3, hfn4, hfn5, hfn6, hfn7, hfn8⟩ := Sq.f9 BN.out
    go_wp2
    refine bodyPost_ret (v := .tuple #[.agg #[.int .i64 r1, .int .i64 r2, .bool r3, .int .i64 r4, .int .i64 r5, .int .i64 r6, .bool r7, .int .i64 r8, .int .i64 r9], u5, .bool false, .int .i64 0]) ?_ rfl ?_
    · refine Ch.results_ctttt (fn := Try.f18) (p := 4) (q := 5) (r := 6) (s := 7) (ty := 24) rfl _ _ (w.heap.size + 1 + 1) 24 #[.int .i64 r1, .int .i64 r2, .bool r3, .int .i64 r4, .int .i64 r5, .int .i64 r6, .bool r7, .int .i64 r8, .int .i64 r9] (0, 0) _ rfl (Tk.put9 BN.out) Try.underlying24 rfl (by kernel_rfl)
    · exact ⟨u5, rfl, Tk.R9 H9.out BN.out (by decide), Tk.below9 HB.out (by omega)⟩
set_option maxHeartbeats 2000000 in
theorem becomes_call (a i : Int) (p : Bool) (b c e : Int) (t : Bool) (l q : Int) (r1 r2 : Int) (r3 : Bool) (r4 r5 r6 : Int) (r7 : Bool) (r8 r9 : Int) (r10 : List (S55)) (A : Option Addr) (n m : Nat) (x y : Addr) (w : World) (hx : w.cell? x = some (.int .i64 0)) (hy : w.cell? y = some (.bool false)) (h : (a, i, p, b, (0 : Int), e, false, l, q, ([] : List (S55))) = (r1, r2, r3, r4, r5, r6, r7, r8, r9, r10)) :
    Calls Try.prog 70 #[.agg #[.int .i64 a, .int .i64 i, .bool p, .int .i64 b, .int .i64 c, .int .i64 e, .bool t, .int .i64 l, .int .i64 q], .slice A n m, .pointer (some x), .pointer (some y)] w fun e' w' => ∃ v9_ : Value, e' = .returned (.tuple #[.agg #[.int .i64 r1, .int .i64 r2, .bool r3, .int .i64 r4, .int .i64 r5, .int .i64 r6, .bool r7, .int .i64 r8, .int .i64 r9], v9_]) ∧ Kd.R k55 55 w' w.heap.size (fun _ => True) v9_ r10 ∧ Below w.heap.size w w' := by
  simp only [Prod.mk.injEq] at h
  obtain ⟨rfl, rfl, rfl, rfl, rfl, rfl, rfl, rfl, rfl, rfl⟩ := h
  have hxl := World.block_lt_of_cell? w x hx
  have hyl := World.block_lt_of_cell? w y hy
  have hx1 : x.block < w.heap.size + 1 := by omega
  have hy1 : y.block < w.heap.size + 1 := by omega
  go_enter Try.func70, Try.ntmps70
  go_wp2
  go_region
  go_wp2
  refine bodyPost_ret (v := .tuple #[.agg #[.int .i64 a, .int .i64 i, .bool p, .int .i64 b, .int .i64 0, .int .i64 e, .bool false, .int .i64 l, .int .i64 q], .slice none 0 0]) ?_ rfl ?_
  · refine results_ct (fn := Try.f70) (p := 6) (u := 7) (ty := 24) rfl _ _ (w.heap.size + 1) 24 #[.int .i64 a, .int .i64 i, .bool p, .int .i64 b, .int .i64 0, .int .i64 e, .bool false, .int .i64 l, .int .i64 q] (0, 0) _ rfl ?_ Try.underlying24 rfl (by kernel_rfl)
    have hnew := blk_new (w.alloc (.cells #[.int .i64 a, .int .i64 i, .bool p, .int .i64 b, .int .i64 0, .int .i64 e, .bool false, .int .i64 l, .int .i64 q] 24 (0, 0))) (.cells #[.int .i64 a, .int .i64 i, .bool p, .int .i64 b, .int .i64 0, .int .i64 e, .bool false, .int .i64 l, .int .i64 q] 24 (0, 0))
    simp only [World.size_alloc] at hnew
    exact hnew
  · refine ⟨_, rfl, Kd.R_nil _ _ _ _ _, ?_⟩
    repeat (first | exact Below.refl _ _ | apply below_alloc | apply below_drew1)
set_option maxHeartbeats 4000000 in
set_option maxRecDepth 100000 in
theorem take_becomes (k : Nat) (a0_0 a0_1 : Int) (a0_2 : Bool) (a0_3 a0_4 a0_5 : Int) (a0_6 : Bool) (a0_7 a0_8 : Int) (r1 r2 : Int) (r3 : Bool) (r4 r5 r6 : Int) (r7 : Bool) (r8 r9 : Int) (r10 : List (S55)) (a1_0 : Int) (A1_1 : Option Addr) (c1_1 : Nat) (l1_1 : List Int) (n1 n2 : Int) (n3 : List Int) (n4 : Int) (w : World) (hr1_1 : Kd.C (Kd.int .u8) w A1_1 l1_1.length l1_1) (hc1_1 : l1_1.length ≤ c1_1)
  (hn : drv_Next.f a0_0 a0_1 a0_2 a0_3 a0_4 a0_5 a0_6 a0_7 a0_8 = some (n1, n2, n3, n4, true, 0)) (hg : drv_good.f k a0_0 a0_1 a0_2 a0_3 a0_4 a0_5 a0_6 a0_7 a0_8 n1 n2 n3 n4 a1_0 l1_1 = some true) (hrow : ∀ n, ∃ s tx, Instr.findNow (.int .i64) (.int .i64 a0_4) (Dr.tabRows n).toList 0 = some (some (s, .agg #[tx, .func (.func 70) #[] #[.pointer (some ⟨n + 15, 0, none⟩), .pointer (some ⟨n + 16, 0, none⟩)]]))) (hc : (a0_0, a0_1, a0_2, a0_3, (0 : Int), (0 : Int), false, a0_7, a0_8, ([] : List (S55))) = (r1, r2, r3, r4, r5, r6, r7, r8, r9, r10)) :
    Calls Try.prog 18 #[.agg #[.int .i64 a0_0, .int .i64 a0_1, .bool a0_2, .int .i64 a0_3, .int .i64 a0_4, .int .i64 a0_5, .bool a0_6, .int .i64 a0_7, .int .i64 a0_8], .agg #[.int .i64 a1_0, .slice A1_1 l1_1.length c1_1]] w fun e w' => ∃ v9_ : Value, e = .returned (.tuple #[.agg #[.int .i64 r1, .int .i64 r2, .bool r3, .int .i64 r4, .int .i64 r5, .int .i64 r6, .bool r7, .int .i64 r8, .int .i64 r9], v9_, .bool false, .int .i64 0]) ∧ Kd.R k55 55 w' w.heap.size (fun _ => True) v9_ r10 ∧ Below w.heap.size w w' := by
  have HR := Aside0.mk hr1_1
  have HC := Aside0.mk hc1_1
  have HN := Aside0.mk hn
  have HG := Aside0.mk hg
  have HCL := Aside0.mk hc
  have HROW := Aside0.mk hrow
  clear hr1_1 hc1_1 hn hg hc hrow
  have hmk := take_mk
  go_enter Try.func18, Try.ntmps18
  go_upto_region 6 with (first | (go_at_call 9; (with_reducible refine (drv_Next.calls _ _ _ _ _ _ _ _ _ _ _ _ _ _ _ _ HN.out).mono ?_); rintro e w1 ⟨sv, rfl, hsv, hb1⟩; obtain ⟨A3, c3, rfl⟩ := Kd.R_slice hsv; have HSV := Aside0.mk hsv; obtain ⟨hD, hA, hN, hB, z1, z2, z3, z4, z5, z6⟩ := Tk.three hb1; have BKD := Aside0.mk hD; have BKA := Aside0.mk hA; have BKN := Aside0.mk hN; have HB1 := Aside0.mk hB; clear hsv hb1 hD hA hN hB; obtain ⟨hd0, hd1, hd2, hd3, hd4, hd5, hd6, hd7, hd8⟩ := Sq.c9 BKD.out; obtain ⟨ha0, ha1⟩ := Sq.c2 BKA.out) | (go_at_call 35; (with_reducible refine (drv_good.calls k _ _ _ _ _ _ _ _ _ _ _ _ _ _ _ _ _ _ _ _ _ (Kd.C_alloc (Kd.C_alloc (Kd.R_reads' HSV.out).2.2 _) _) (Kd.R_reads' HSV.out).2.1 (Kd.C_alloc (Kd.C_alloc (Kd.C_below HR.out HB1.out) _) _) HC.out HG.out).mono ?_); rintro e w2 ⟨rfl, hb2⟩; have BKC := Aside0.mk (blk_below (blk_new (w1.alloc (.cells #[.int .i64 n1, .int .i64 n2, .slice A3 n3.length c3, .int .i64 n4] 31 (0, 0))) (.chan 1 #[] false 0 0 false)) hb2); simp only [World.size_alloc] at BKC; have BD2 := Aside0.mk (blk_below (blk_alloc (blk_alloc BKD.out _) _) hb2); have BA2 := Aside0.mk (blk_below (blk_alloc (blk_alloc BKA.out _) _) hb2); have BN2 := Aside0.mk (blk_below (blk_alloc (blk_alloc BKN.out _) _) hb2); have HB2 := Aside0.mk (below_step (below_alloc (below_alloc HB1.out _) _) hb2); clear hb2; have hg2 := HB1.out.size; have hw2 : w.heap.size ≤ w1.heap.size + 1 := (by omega); clear hg2 hd0 hd1 hd2 hd3 hd4 hd5 hd6 hd7 hd8 ha0 ha1 z1 z2 z3 z4 z5 z6 BKD BKA BKN; obtain ⟨ha0, ha1⟩ := Sq.c2 BA2.out))
  refine Ch.wp_region_from ?_
  refine Ch.FromL.value (v := .chan (some (w1.heap.size + 1))) (w' := w2) rfl rfl ?_
  simp only [Act.put, List.setIfInBounds_toArray, List.set_cons_zero, List.set_cons_succ]
  refine Ch.FromL.value (v := .agg #[.int .i64 a1_0, .slice A1_1 l1_1.length c1_1]) (w' := w2) rfl ?ld ?_
  case ld => go_simp
  simp only [Act.put, List.setIfInBounds_toArray, List.set_cons_zero, List.set_cons_succ]
  refine Ch.FromL.comm (w1 := w2) rfl rfl (Ch.Comm.send (w1.heap.size + 1) 1 #[] 0 0 false (.agg #[.int .i64 a1_0, .slice A1_1 l1_1.length c1_1]) (.tuple #[]) BKC.out (by decide)) ?_
  refine Ch.FromL.ops ?_
  obtain ⟨w3, hw3⟩ : ∃ w3, w3 = ({ w2 with heap := w2.heap.setIfInBounds (w1.heap.size + 1) (.chan 1 (#[].push (.agg #[.int .i64 a1_0, .slice A1_1 l1_1.length c1_1])) false (0 + 1) 0 false) } : World) := ⟨_, rfl⟩
  rw [← hw3]
  have BD3 := Aside0.mk (show w3.heap[w.heap.size]? = _ from hw3 ▸ Ch.chan_blk BKC.out BD2.out (by simp))
  have BN3 := Aside0.mk (show w3.heap[w.heap.size + 1 + 1]? = _ from hw3 ▸ Ch.chan_blk BKC.out BN2.out (by simp))
  have BC3 := Aside0.mk (show w3.heap[w1.heap.size + 1]? = _ from hw3 ▸ Ch.chan_same BKC.out)
  have HB3 := Aside0.mk (show Below w.heap.size w w3 from hw3 ▸ HB2.out.trans (Ch.chan_below hw2))
  clear hw3 BKC BD2 BA2 BN2 HB2 ha0 ha1
  go_upto_region 8 with (fail)
  refine Ch.wp_region_from ?_
  refine Ch.FromL.comm (w1 := w3) rfl ?rn (Ch.Comm.take (w1.heap.size + 1) 1 (#[].push (.agg #[.int .i64 a1_0, .slice A1_1 l1_1.length c1_1])) (0 + 1) 0 false (.agg #[.int .i64 0, .slice none 0 0]) BC3.out (by simp)) ?_
  case rn =>
    simp only [execOp]
    simp [take_zero]
    rfl
  refine Ch.FromL.ops ?_
  simp only [Act.put, List.setIfInBounds_toArray, List.set_cons_zero, List.set_cons_succ]
  obtain ⟨w4, hw4⟩ : ∃ w4, w4 = ({ w3 with heap := w3.heap.setIfInBounds (w1.heap.size + 1) (.chan 1 ((#[].push (.agg #[.int .i64 a1_0, .slice A1_1 l1_1.length c1_1])).extract 1 (#[].push (Value.agg #[.int .i64 a1_0, .slice A1_1 l1_1.length c1_1])).size) false (0 + 1) (0 + 1) false) } : World) := ⟨_, rfl⟩
  rw [← hw4]
  have BD4 := Aside0.mk (show w4.heap[w.heap.size]? = _ from hw4 ▸ Ch.chan_blk BC3.out BD3.out (by simp))
  have BN4 := Aside0.mk (show w4.heap[w.heap.size + 1 + 1]? = _ from hw4 ▸ Ch.chan_blk BC3.out BN3.out (by simp))
  have HB4 := Aside0.mk (show Below w.heap.size w w4 from hw4 ▸ HB3.out.trans (Ch.chan_below hw2))
  have hva : (#[].push (Value.agg #[.int .i64 a1_0, .slice A1_1 l1_1.length c1_1])).getD 0 undef = .agg #[.int .i64 a1_0, .slice A1_1 l1_1.length c1_1] := rfl
  rw [hva]
  have hfd := blk_frozen BD4.out 5
  have hd5 : w4.cell? ⟨w.heap.size, 5, none⟩ = some (.int .i64 a0_5) := (blk_cell BD4.out 5).trans rfl
  have hz4 := blk_lt BD4.out
  clear hw4 BC3 BD3 BN3 HB3 hw2 hmk HSV HG HN HB1
  go_upto_block 0 with (fail)
  go_cut [5, 6] (fun v5 v6 wc => ∃ v9 : Value, v5 = v9 ∧ v6 = .bool false ∧ Aside0 (wc.heap[w.heap.size + 1 + 1]? = some (.cells #[.int .i64 r1, .int .i64 r2, .bool r3, .int .i64 r4, .int .i64 r5, .int .i64 r6, .bool r7, .int .i64 r8, .int .i64 r9] 24 (0, 0))) ∧ Aside0 (Kd.R k55 55 wc w.heap.size (fun _ => True) v9 r10) ∧ Aside0 (Below w.heap.size w wc))
  case first =>
    go_upto_region 12 with (fail)
    obtain ⟨gx, hgx⟩ : ∃ gx, gx = w4.heap.size := ⟨_, rfl⟩
    obtain ⟨w5, hw5⟩ : ∃ w5, w5 = ((w4.setCell ⟨w.heap.size, 5, none⟩ (.int .i64 0)).alloc (.cells #[.int .i64 a1_0, .slice A1_1 l1_1.length c1_1] 27 (0, 0))) := ⟨_, rfl⟩
    have BD5 := Aside0.mk (show w5.heap[w.heap.size]? = some (.cells #[.int .i64 a0_0, .int .i64 a0_1, .bool a0_2, .int .i64 a0_3, .int .i64 a0_4, .int .i64 0, .bool a0_6, .int .i64 a0_7, .int .i64 a0_8] 24 (0, 0)) from hw5 ▸ blk_alloc (blk_put BD4.out 5 _ rfl) _)
    have BN5 := Aside0.mk (show w5.heap[w.heap.size + 1 + 1]? = _ from hw5 ▸ blk_alloc (blk_far BN4.out (show w.heap.size + 1 + 1 ≠ w.heap.size by omega) _) _)
    have BX5 := Aside0.mk (show w5.heap[gx]? = some (.cells #[.int .i64 a1_0, .slice A1_1 l1_1.length c1_1] 27 (0, 0)) from by rw [hw5, hgx]; have := blk_new (w4.setCell ⟨w.heap.size, 5, none⟩ (.int .i64 0)) (.cells #[.int .i64 a1_0, .slice A1_1 l1_1.length c1_1] 27 (0, 0)); simpa [World.setCell] using this)
    have HB5 := Aside0.mk (show Below w.heap.size w w5 from hw5 ▸ below_alloc (below_set HB4.out (Nat.le_refl _)) _)
    have gz3 : w.heap.size + 1 + 1 < gx := hgx ▸ blk_lt BN4.out
    rw [← hw5, ← hgx]
    have hN1 : w.heap.size ≠ w.heap.size + 1 + 1 := by omega
    have hN2 : gx ≠ w.heap.size + 1 + 1 := by omega
    have hGE : w.heap.size ≤ w.heap.size + 1 + 1 := by omega
    have hS5 : (fun w' : World => w'.cell? ⟨w.heap.size, 0, none⟩ = some (.int .i64 a0_0) ∧ w'.cell? ⟨w.heap.size, 1, none⟩ = some (.int .i64 a0_1) ∧ w'.cell? ⟨w.heap.size, 2, none⟩ = some (.bool a0_2) ∧ w'.cell? ⟨w.heap.size, 3, none⟩ = some (.int .i64 a0_3) ∧ w'.cell? ⟨w.heap.size, 4, none⟩ = some (.int .i64 a0_4) ∧ w'.cell? ⟨w.heap.size, 5, none⟩ = some (.int .i64 0) ∧ w'.cell? ⟨w.heap.size, 6, none⟩ = some (.bool a0_6) ∧ w'.cell? ⟨w.heap.size, 7, none⟩ = some (.int .i64 a0_7) ∧ w'.cell? ⟨w.heap.size, 8, none⟩ = some (.int .i64 a0_8) ∧ w'.cell? ⟨gx, 0, none⟩ = some (.int .i64 a1_0) ∧ w'.cell? ⟨gx, 1, none⟩ = some (.slice A1_1 l1_1.length c1_1)) w5.drew := Sq.j9 (blk_drew BD5.out) (Sq.c2 (blk_drew BX5.out))
    have hfl : ∀ (tx : Value) (n : Nat) (W : World), (Instr.field 83 (.agg #[tx, .func (.func 70) #[] #[.pointer (some ⟨n + 15, 0, none⟩), .pointer (some ⟨n + 16, 0, none⟩)]]) 1).run Try.prog W = .ok (.func (.func 70) #[] #[.pointer (some ⟨n + 15, 0, none⟩), .pointer (some ⟨n + 16, 0, none⟩)]) W := fun _ _ _ => by kernel_rfl
    clear hw5 hgx BD4 BN4 HB4 hfd hd5 hz4 hva gz3
    go_region_held3 (fun w' : World => w'.cell? ⟨w.heap.size, 0, none⟩ = some (.int .i64 a0_0) ∧ w'.cell? ⟨w.heap.size, 1, none⟩ = some (.int .i64 a0_1) ∧ w'.cell? ⟨w.heap.size, 2, none⟩ = some (.bool a0_2) ∧ w'.cell? ⟨w.heap.size, 3, none⟩ = some (.int .i64 a0_3) ∧ w'.cell? ⟨w.heap.size, 4, none⟩ = some (.int .i64 a0_4) ∧ w'.cell? ⟨w.heap.size, 5, none⟩ = some (.int .i64 0) ∧ w'.cell? ⟨w.heap.size, 6, none⟩ = some (.bool a0_6) ∧ w'.cell? ⟨w.heap.size, 7, none⟩ = some (.int .i64 a0_7) ∧ w'.cell? ⟨w.heap.size, 8, none⟩ = some (.int .i64 a0_8) ∧ w'.cell? ⟨gx, 0, none⟩ = some (.int .i64 a1_0) ∧ w'.cell? ⟨gx, 1, none⟩ = some (.slice A1_1 l1_1.length c1_1)) (first | with_reducible assumption | with_reducible exact Tk.keep11s hN1 hN2 (by with_reducible assumption)) (first | (go_at_call 33; ((with_reducible refine (Dr.table_tab _).mono ?_); rintro e' w6 ⟨n6, ht, rfl⟩; have hS6 := Tk.keep11 ht.below hS5; obtain ⟨s6, tx6, hf6⟩ := HROW.out n6; have hlk : (Instr.lookup 85 (.map (some (n6 + 1))) (.int .i64 a0_4) false).run Try.prog w6 = .ok (.agg #[tx6, .func (.func 70) #[] #[.pointer (some ⟨n6 + 15, 0, none⟩), .pointer (some ⟨n6 + 16, 0, none⟩)]]) w6 := Dr.look_row ht.map a0_4 s6 _ false hf6; clear hf6; have HB6 := Aside0.mk (below_step (below_drew1 HB5.out) ht.below); have BN6 := Aside0.mk (blk_below (blk_drew BN5.out) ht.below); have hz15 : w6.cell? ⟨n6 + 15, 0, none⟩ = some (.int .i64 0) := ht.objs 15 _ _ rfl; have hz16 : w6.cell? ⟨n6 + 16, 0, none⟩ = some (.bool false) := ht.objs 16 _ _ rfl; clear ht)) | (go_at_call 70; ((with_reducible refine (becomes_call _ _ _ _ _ _ _ _ _ _ _ _ _ _ _ _ _ _ _ _ _ _ _ _ _ hz15 hz16 HCL.out).mono ?_); rintro e' w7 ⟨v9, rfl, h9, hb7⟩; have hS7 := Tk.keep11 hb7 hS6; have HB7 := Aside0.mk (below_step HB6.out hb7); have BN7 := Aside0.mk (blk_below BN6.out hb7); have H9 := Aside0.mk (Kd.R_lower (h9) HB6.out.size); clear h9 hb7; obtain ⟨hn0, hn1, hn2, hn3, hn4, hn5, hn6, hn7, hn8⟩ := Sq.c9 BN7.out; obtain ⟨hfn0, hfn1, hfn2, hfn3, hfn4, hfn5, hfn6, hfn7, hfn8⟩ := Sq.f9 BN7.out)))
    go_wp2
    go_meet
    case rel => exact ⟨v9, rfl, rfl, ⟨Tk.put9 BN7.out⟩, ⟨Tk.R9 H9.out BN7.out (by decide)⟩, ⟨Tk.below9 HB7.out hGE⟩⟩
  case rest =>
    obtain ⟨v9, rfl, rfl, BN, H9, HB⟩ := hcut
    obtain ⟨hn0, hn1, hn2, hn3, hn4, hn5, hn6, hn7, hn8⟩ := Sq.c9 BN.out
    obtain ⟨hfn0, hfn1, hfn2, hfn3, hfn4, hfn5, hfn6, hfn7, hfn8⟩ := Sq.f9 BN.out
    go_wp2
    refine bodyPost_ret (v := .tuple #[.agg #[.int .i64 r1, .int .i64 r2, .bool r3, .int .i64 r4, .int .i64 r5, .int .i64 r6, .bool r7, .int .i64 r8, .int .i64 r9], u5, .bool false, .int .i64 0]) ?_ rfl ?_
    · refine Ch.results_ctttt (fn := Try.f18) (p := 4) (q := 5) (r := 6) (s := 7) (ty := 24) rfl _ _ (w.heap.size + 1 + 1) 24 #[.int .i64 r1, .int .i64 r2, .bool r3, .int .i64 r4, .int .i64 r5, .int .i64 r6, .bool r7, .int .i64 r8, .int .i64 r9] (0, 0) _ rfl (Tk.put9 BN.out) Try.underlying24 rfl (by kernel_rfl)
    · exact ⟨u5, rfl, Tk.R9 H9.out BN.out (by decide), Tk.below9 HB.out (by omega)⟩
set_option maxHeartbeats 4000000 in
set_option maxRecDepth 100000 in
theorem take_bad (k : Nat) (a0_0 a0_1 : Int) (a0_2 : Bool) (a0_3 a0_4 a0_5 : Int) (a0_6 : Bool) (a0_7 a0_8 : Int) (r1 r2 : Int) (r3 : Bool) (r4 r5 r6 : Int) (r7 : Bool) (r8 r9 : Int) (r10 : Bool) (a1_0 : Int) (A1_1 : Option Addr) (c1_1 : Nat) (l1_1 : List Int) (n1 n2 : Int) (n3 : List Int) (n4 : Int) (w : World) (hr1_1 : Kd.C (Kd.int .u8) w A1_1 l1_1.length l1_1) (hc1_1 : l1_1.length ≤ c1_1)
  (hn : drv_Next.f a0_0 a0_1 a0_2 a0_3 a0_4 a0_5 a0_6 a0_7 a0_8 = some (n1, n2, n3, n4, true, 0)) (hg : drv_good.f k a0_0 a0_1 a0_2 a0_3 a0_4 a0_5 a0_6 a0_7 a0_8 n1 n2 n3 n4 a1_0 l1_1 = some false) (hc : drv_bad.f a0_0 a0_1 a0_2 a0_3 a0_4 a0_5 a0_6 a0_7 a0_8 = some (r1, r2, r3, r4, r5, r6, r7, r8, r9, r10)) :
    Calls Try.prog 18 #[.agg #[.int .i64 a0_0, .int .i64 a0_1, .bool a0_2, .int .i64 a0_3, .int .i64 a0_4, .int .i64 a0_5, .bool a0_6, .int .i64 a0_7, .int .i64 a0_8], .agg #[.int .i64 a1_0, .slice A1_1 l1_1.length c1_1]] w fun e w' => ∃ v9_ : Value, e = .returned (.tuple #[.agg #[.int .i64 r1, .int .i64 r2, .bool r3, .int .i64 r4, .int .i64 r5, .int .i64 r6, .bool r7, .int .i64 r8, .int .i64 r9], v9_, .bool r10, .int .i64 0]) ∧ Kd.R k55 55 w' w.heap.size (fun _ => True) v9_ ([] : List (S55)) ∧ Below w.heap.size w w' := by
  have HR := Aside0.mk hr1_1
  have HC := Aside0.mk hc1_1
  have HN := Aside0.mk hn
  have HG := Aside0.mk hg
  have HCL := Aside0.mk hc
  clear hr1_1 hc1_1 hn hg hc
  have hmk := take_mk
  go_enter Try.func18, Try.ntmps18
  go_upto_region 8 with (first | (go_at_call 9; (with_reducible refine (drv_Next.calls _ _ _ _ _ _ _ _ _ _ _ _ _ _ _ _ HN.out).mono ?_); rintro e w1 ⟨sv, rfl, hsv, hb1⟩; obtain ⟨A3, c3, rfl⟩ := Kd.R_slice hsv; have HSV := Aside0.mk hsv; obtain ⟨hD, hA, hN, hB, z1, z2, z3, z4, z5, z6⟩ := Tk.three hb1; have BKD := Aside0.mk hD; have BKA := Aside0.mk hA; have BKN := Aside0.mk hN; have HB1 := Aside0.mk hB; clear hsv hb1 hD hA hN hB; obtain ⟨hd0, hd1, hd2, hd3, hd4, hd5, hd6, hd7, hd8⟩ := Sq.c9 BKD.out; obtain ⟨ha0, ha1⟩ := Sq.c2 BKA.out) | (go_at_call 35; (with_reducible refine (drv_good.calls k _ _ _ _ _ _ _ _ _ _ _ _ _ _ _ _ _ _ _ _ _ (Kd.C_alloc (Kd.C_alloc (Kd.R_reads' HSV.out).2.2 _) _) (Kd.R_reads' HSV.out).2.1 (Kd.C_alloc (Kd.C_alloc (Kd.C_below HR.out HB1.out) _) _) HC.out HG.out).mono ?_); rintro e w2 ⟨rfl, hb2⟩; have BKC := Aside0.mk (blk_below (blk_new (w1.alloc (.cells #[.int .i64 n1, .int .i64 n2, .slice A3 n3.length c3, .int .i64 n4] 31 (0, 0))) (.chan 1 #[] false 0 0 false)) hb2); simp only [World.size_alloc] at BKC; have BD2 := Aside0.mk (blk_below (blk_alloc (blk_alloc BKD.out _) _) hb2); have BA2 := Aside0.mk (blk_below (blk_alloc (blk_alloc BKA.out _) _) hb2); have BN2 := Aside0.mk (blk_below (blk_alloc (blk_alloc BKN.out _) _) hb2); have HB2 := Aside0.mk (below_step (below_alloc (below_alloc HB1.out _) _) hb2); clear hb2; have hg2 := HB1.out.size; have hw2 : w.heap.size ≤ w1.heap.size + 1 := (by omega); clear hg2 hd0 hd1 hd2 hd3 hd4 hd5 hd6 hd7 hd8 ha0 ha1 z1 z2 z3 z4 z5 z6 BKD BKA BKN; obtain ⟨ha0, ha1⟩ := Sq.c2 BA2.out))
  refine Ch.wp_region_from ?_
  refine Ch.FromL.comm (w1 := w2) rfl ?rn (Ch.Comm.empty (w1.heap.size + 1) 1 #[] 0 0 false (.agg #[.int .i64 0, .slice none 0 0]) BKC.out rfl) ?_
  case rn =>
    simp only [execOp]
    simp [take_zero]
    rfl
  refine Ch.FromL.ops ?_
  simp only [Act.put, List.setIfInBounds_toArray, List.set_cons_zero, List.set_cons_succ]
  clear hmk HSV HG HN HB1 BKC ha0 ha1
  have hGE : w.heap.size ≤ w.heap.size + 1 + 1 := by omega
  go_upto_block 0 with (fail)
  go_cut [5, 6] (fun v5 v6 wc => v5 = .slice none 0 0 ∧ v6 = .bool r10 ∧ Aside0 (wc.heap[w.heap.size + 1 + 1]? = some (.cells #[.int .i64 r1, .int .i64 r2, .bool r3, .int .i64 r4, .int .i64 r5, .int .i64 r6, .bool r7, .int .i64 r8, .int .i64 r9] 24 (0, 0))) ∧ Aside0 (Below w.heap.size w wc))
  case first =>
    obtain ⟨hd0, hd1, hd2, hd3, hd4, hd5, hd6, hd7, hd8⟩ := Sq.c9 BD2.out
    go_wp2_with (first | (go_at_call 36; ((with_reducible refine (drv_bad.calls _ _ _ _ _ _ _ _ _ _ _ _ _ _ _ _ _ _ _ _ HCL.out).mono ?_); rintro e' w7 ⟨rfl, hb7⟩; have HB7 := Aside0.mk (below_step HB2.out hb7); have BN7 := Aside0.mk (blk_below BN2.out hb7); clear hb7; obtain ⟨hn0, hn1, hn2, hn3, hn4, hn5, hn6, hn7, hn8⟩ := Sq.c9 BN7.out; obtain ⟨hfn0, hfn1, hfn2, hfn3, hfn4, hfn5, hfn6, hfn7, hfn8⟩ := Sq.f9 BN7.out)))
    go_meet
    case rel => exact ⟨rfl, rfl, ⟨Tk.put9 BN7.out⟩, ⟨Tk.below9 HB7.out hGE⟩⟩
  case rest =>
    obtain ⟨rfl, rfl, BN, HB⟩ := hcut
    obtain ⟨hn0, hn1, hn2, hn3, hn4, hn5, hn6, hn7, hn8⟩ := Sq.c9 BN.out
    obtain ⟨hfn0, hfn1, hfn2, hfn3, hfn4, hfn5, hfn6, hfn7, hfn8⟩ := Sq.f9 BN.out
    go_wp2
    refine bodyPost_ret (v := .tuple #[.agg #[.int .i64 r1, .int .i64 r2, .bool r3, .int .i64 r4, .int .i64 r5, .int .i64 r6, .bool r7, .int .i64 r8, .int .i64 r9], .slice none 0 0, .bool r10, .int .i64 0]) ?_ rfl ?_
    · refine Ch.results_ctttt (fn := Try.f18) (p := 4) (q := 5) (r := 6) (s := 7) (ty := 24) rfl _ _ (w.heap.size + 1 + 1) 24 #[.int .i64 r1, .int .i64 r2, .bool r3, .int .i64 r4, .int .i64 r5, .int .i64 r6, .bool r7, .int .i64 r8, .int .i64 r9] (0, 0) _ rfl (Tk.put9 BN.out) Try.underlying24 rfl (by kernel_rfl)
    · exact ⟨_, rfl, Kd.R_nil _ _ _ _ _, Tk.below9 HB.out hGE⟩
set_option maxHeartbeats 4000000 in
set_option maxRecDepth 100000 in
theorem take_err (er : Int) (a0_0 a0_1 : Int) (a0_2 : Bool) (a0_3 a0_4 a0_5 : Int) (a0_6 : Bool) (a0_7 a0_8 : Int) (a1_0 : Int) (A1_1 : Option Addr) (c1_1 : Nat) (l1_1 : List Int) (w : World) (he : er = 0 ∨ er = 1)
  (hn : drv_Next.f a0_0 a0_1 a0_2 a0_3 a0_4 a0_5 a0_6 a0_7 a0_8 = some (0, 0, [], 0, false, er)) :
    Calls Try.prog 18 #[.agg #[.int .i64 a0_0, .int .i64 a0_1, .bool a0_2, .int .i64 a0_3, .int .i64 a0_4, .int .i64 a0_5, .bool a0_6, .int .i64 a0_7, .int .i64 a0_8], .agg #[.int .i64 a1_0, .slice A1_1 l1_1.length c1_1]] w fun e w' => ∃ v9_ : Value, e = .returned (.tuple #[.agg #[.int .i64 0, .int .i64 0, .bool false, .int .i64 0, .int .i64 0, .int .i64 0, .bool false, .int .i64 0, .int .i64 0], v9_, .bool false, .int .i64 1]) ∧ Kd.R k55 55 w' w.heap.size (fun _ => True) v9_ ([] : List (S55)) ∧ Below w.heap.size w w' := by
  have HN := Aside0.mk hn
  clear hn
  rcases he with rfl | rfl
  all_goals
    go_enter Try.func18, Try.ntmps18
    go_wp2_with (first | (go_at_call 9; (with_reducible refine (drv_Next.calls _ _ _ _ _ _ _ _ _ _ _ _ _ _ _ _ HN.out).mono ?_); rintro e w1 ⟨sv, rfl, hsv, hb1⟩; obtain ⟨A3, c3, rfl⟩ := Kd.R_slice hsv; have HSV := Aside0.mk hsv; obtain ⟨hD, hA, hN, hB, z1, z2, z3, z4, z5, z6⟩ := Tk.three hb1; have BKD := Aside0.mk hD; have BKA := Aside0.mk hA; have BKN := Aside0.mk hN; have HB1 := Aside0.mk hB; clear hsv hb1 hD hA hN hB; obtain ⟨hn0, hn1, hn2, hn3, hn4, hn5, hn6, hn7, hn8⟩ := Sq.c9 BKN.out; obtain ⟨hfn0, hfn1, hfn2, hfn3, hfn4, hfn5, hfn6, hfn7, hfn8⟩ := Sq.f9 BKN.out))
    refine bodyPost_ret (v := .tuple #[.agg #[.int .i64 0, .int .i64 0, .bool false, .int .i64 0, .int .i64 0, .int .i64 0, .bool false, .int .i64 0, .int .i64 0], .slice none 0 0, .bool false, .int .i64 1]) ?_ rfl ?_
    · refine Ch.results_ctttt (fn := Try.f18) (p := 4) (q := 5) (r := 6) (s := 7) (ty := 24) rfl _ _ (w.heap.size + 1 + 1) 24 #[.int .i64 0, .int .i64 0, .bool false, .int .i64 0, .int .i64 0, .int .i64 0, .bool false, .int .i64 0, .int .i64 0] (0, 0) _ rfl (blk_alloc (Tk.put9 BKN.out) _) Try.underlying24 rfl (by kernel_rfl)
    · exact ⟨_, rfl, Kd.R_nil _ _ _ _ _, below_alloc (Tk.below9 HB1.out (by omega)) _⟩
def drv_row.f (k : Nat) (a0_0 : Int) (a0_1 : Int) (a0_2 : Bool) (a0_3 : Int) (a0_4 : Int) (a0_5 : Int) (a0_6 : Bool) (a0_7 : Int) (a0_8 : Int) (l1 : List Int) : Option (Int × Int × Bool × Int × Int × Int × Bool × Int × Int × List (S55)) :=
  if a0_4 = 4 then drv_counted.f a0_0 a0_1 a0_2 a0_3 a0_4 a0_5 a0_6 a0_7 a0_8 l1 else if a0_4 = 5 then drv_samples.f k a0_0 a0_1 a0_2 a0_3 a0_4 a0_5 a0_6 a0_7 a0_8 l1 else if a0_4 = 6 then some (a0_0, a0_1, a0_2, a0_3, 0, a0_5, false, a0_7, a0_8, []) else if a0_4 = 7 then drv_again.f a0_0 a0_1 a0_2 a0_3 a0_4 a0_5 a0_6 a0_7 a0_8 l1 else drv_next.f a0_0 a0_1 a0_2 a0_3 a0_4 a0_5 a0_6 a0_7 a0_8 l1
def drv_Take.f (k : Nat) (a0_0 : Int) (a0_1 : Int) (a0_2 : Bool) (a0_3 : Int) (a0_4 : Int) (a0_5 : Int) (a0_6 : Bool) (a0_7 : Int) (a0_8 : Int) (a1_0 : Int) (l1_1 : List Int) : Option (Int × Int × Bool × Int × Int × Int × Bool × Int × Int × List (S55) × Bool × Int) :=
  (drv_Next.f a0_0 a0_1 a0_2 a0_3 a0_4 a0_5 a0_6 a0_7 a0_8).bind fun n => if n.2.2.2.2.1 = true then ((drv_good.f k a0_0 a0_1 a0_2 a0_3 a0_4 a0_5 a0_6 a0_7 a0_8 n.1 n.2.1 n.2.2.1 n.2.2.2.1 a1_0 l1_1).bind fun g => if g = true then ((drv_row.f k a0_0 a0_1 a0_2 a0_3 a0_4 0 a0_6 a0_7 a0_8 l1_1).bind fun r => some (r.1, r.2.1, r.2.2.1, r.2.2.2.1, r.2.2.2.2.1, r.2.2.2.2.2.1, r.2.2.2.2.2.2.1, r.2.2.2.2.2.2.2.1, r.2.2.2.2.2.2.2.2.1, r.2.2.2.2.2.2.2.2.2, false, 0)) else ((drv_bad.f a0_0 a0_1 a0_2 a0_3 a0_4 a0_5 a0_6 a0_7 a0_8).bind fun r => some (r.1, r.2.1, r.2.2.1, r.2.2.2.1, r.2.2.2.2.1, r.2.2.2.2.2.1, r.2.2.2.2.2.2.1, r.2.2.2.2.2.2.2.1, r.2.2.2.2.2.2.2.2.1, [], r.2.2.2.2.2.2.2.2.2, 0))) else some (0, 0, false, 0, 0, 0, false, 0, 0, [], false, 1)
theorem drv_row.mono : ∀ a0 a1 a2 a3 a4 a5 a6 a7 a8 a9 k, LeO (drv_row.f k a0 a1 a2 a3 a4 a5 a6 a7 a8 a9) (drv_row.f (k + 1) a0 a1 a2 a3 a4 a5 a6 a7 a8 a9) := by
  intro a0 a1 a2 a3 a4 a5 a6 a7 a8 a9 k
  unfold drv_row.f
  repeat' first
      | (with_reducible exact drv_samples.mono _ _ _ _ _ _ _ _ _ _ _)
      | (with_reducible exact LeO.refl _)
      | (with_reducible refine LeO.ite ?_ ?_)
theorem drv_Take.mono : ∀ a0 a1 a2 a3 a4 a5 a6 a7 a8 a9 a10 k, LeO (drv_Take.f k a0 a1 a2 a3 a4 a5 a6 a7 a8 a9 a10) (drv_Take.f (k + 1) a0 a1 a2 a3 a4 a5 a6 a7 a8 a9 a10) := by
  intro a0 a1 a2 a3 a4 a5 a6 a7 a8 a9 a10 k
  unfold drv_Take.f
  repeat' first
      | (with_reducible exact drv_row.mono _ _ _ _ _ _ _ _ _ _ _)
      | (with_reducible exact drv_good.mono _ _ _ _ _ _ _ _ _ _ _ _ _ _ _ _)
      | (with_reducible exact LeO.refl _)
      | (with_reducible refine LeO.ite ?_ ?_)
      | (with_reducible refine LeO.bind ?_ (fun _ => ?_))
theorem drv_Next.tells (a0_0 a0_1 : Int) (a0_2 : Bool) (a0_3 a0_4 a0_5 : Int) (a0_6 : Bool) (a0_7 a0_8 : Int) (n : Int × Int × List Int × Int × Bool × Int) (h : drv_Next.f a0_0 a0_1 a0_2 a0_3 a0_4 a0_5 a0_6 a0_7 a0_8 = some n) :
    (n = (0, 0, [], 0, false, 1)) ∨ (n = (0, 0, [], 0, false, 0)) ∨ ((∃ n1 n2 n3 n4, n = (n1, n2, n3, n4, true, 0)) ∧ (a0_4 = 1 ∨ a0_4 = 2 ∨ a0_4 = 3 ∨ a0_4 = 4 ∨ a0_4 = 5 ∨ a0_4 = 6 ∨ a0_4 = 7)) := by
  unfold drv_Next.f at h
  have h' := Option.some.inj h
  clear h
  by_cases hg : Dr.goodD a0_0 a0_1 a0_3 a0_4 a0_5 a0_7 a0_8 = true
  · rw [if_pos hg] at h'
    have hc := Dr.goodD_iff hg
    have hcase : a0_4 = 0 ∨ a0_4 = 1 ∨ a0_4 = 2 ∨ a0_4 = 3 ∨ a0_4 = 4 ∨ a0_4 = 5 ∨ a0_4 = 6 ∨ a0_4 = 7 ∨ a0_4 = 8 := by omega
    clear hc
    rcases hcase with rfl | rfl | rfl | rfl | rfl | rfl | rfl | rfl | rfl
    · exact .inr (.inl h'.symm)
    all_goals first
      | exact .inr (.inl h'.symm)
      | exact .inr (.inr ⟨⟨_, _, _, _, h'.symm⟩, by decide⟩)
  · rw [if_neg hg] at h'
    exact .inl h'.symm
set_option maxHeartbeats 4000000 in
theorem drv_Take.calls (k : Nat) (a0_0 : Int) (a0_1 : Int) (a0_2 : Bool) (a0_3 : Int) (a0_4 : Int) (a0_5 : Int) (a0_6 : Bool) (a0_7 : Int) (a0_8 : Int) (a1_0 : Int) (A1_1 : Option Addr) (c1_1 : Nat) (l1_1 : List Int) (r1 r2 : Int) (r3 : Bool) (r4 r5 r6 : Int) (r7 : Bool) (r8 r9 : Int) (r10 : List (S55)) (r11 : Bool) (r12 : Int) (w : World) (hr1_1 : Kd.C (Kd.int .u8) w A1_1 l1_1.length l1_1) (hc1_1 : l1_1.length ≤ c1_1) (h : drv_Take.f k a0_0 a0_1 a0_2 a0_3 a0_4 a0_5 a0_6 a0_7 a0_8 a1_0 l1_1 = some (r1, r2, r3, r4, r5, r6, r7, r8, r9, r10, r11, r12)) :
    Calls Try.prog 18 #[.agg #[.int .i64 a0_0, .int .i64 a0_1, .bool a0_2, .int .i64 a0_3, .int .i64 a0_4, .int .i64 a0_5, .bool a0_6, .int .i64 a0_7, .int .i64 a0_8], .agg #[.int .i64 a1_0, .slice A1_1 l1_1.length c1_1]] w fun e w' => ∃ v9_ : Value, e = .returned (.tuple #[.agg #[.int .i64 r1, .int .i64 r2, .bool r3, .int .i64 r4, .int .i64 r5, .int .i64 r6, .bool r7, .int .i64 r8, .int .i64 r9], v9_, .bool r11, .int .i64 r12]) ∧ Kd.R k55 55 w' w.heap.size (fun _ => True) v9_ r10 ∧ Below w.heap.size w w' := by
  unfold drv_Take.f at h
  obtain ⟨n, hn, h⟩ := Option.bind_eq_some_iff.mp h
  rcases drv_Next.tells _ _ _ _ _ _ _ _ _ _ hn with rfl | rfl | ⟨⟨n1, n2, n3, n4, rfl⟩, hst⟩
  · rw [if_neg (by decide)] at h
    simp only [Option.some.injEq, Prod.mk.injEq] at h
    obtain ⟨rfl, rfl, rfl, rfl, rfl, rfl, rfl, rfl, rfl, rfl, rfl, rfl⟩ := h
    exact take_err 1 a0_0 a0_1 a0_2 a0_3 a0_4 a0_5 a0_6 a0_7 a0_8 _ _ _ _ w (.inr rfl) hn
  · rw [if_neg (by decide)] at h
    simp only [Option.some.injEq, Prod.mk.injEq] at h
    obtain ⟨rfl, rfl, rfl, rfl, rfl, rfl, rfl, rfl, rfl, rfl, rfl, rfl⟩ := h
    exact take_err 0 a0_0 a0_1 a0_2 a0_3 a0_4 a0_5 a0_6 a0_7 a0_8 _ _ _ _ w (.inl rfl) hn
  · rw [if_pos rfl] at h
    obtain ⟨g, hg, h⟩ := Option.bind_eq_some_iff.mp h
    cases g with
    | false =>
      rw [if_neg (by decide)] at h
      obtain ⟨⟨s1, s2, s3, s4, s5, s6, s7, s8, s9, s10⟩, hb, h⟩ := Option.bind_eq_some_iff.mp h
      simp only [Option.some.injEq, Prod.mk.injEq] at h
      obtain ⟨rfl, rfl, rfl, rfl, rfl, rfl, rfl, rfl, rfl, rfl, rfl, rfl⟩ := h
      exact take_bad k a0_0 a0_1 a0_2 a0_3 a0_4 a0_5 a0_6 a0_7 a0_8 _ _ _ _ _ _ _ _ _ _ _ _ _ _ _ _ _ _ w hr1_1 hc1_1 hn hg hb
    | true =>
      rw [if_pos rfl] at h
      obtain ⟨⟨s1, s2, s3, s4, s5, s6, s7, s8, s9, s10⟩, hb, h⟩ := Option.bind_eq_some_iff.mp h
      simp only [Option.some.injEq, Prod.mk.injEq] at h
      obtain ⟨rfl, rfl, rfl, rfl, rfl, rfl, rfl, rfl, rfl, rfl, rfl, rfl⟩ := h
      unfold drv_row.f at hb
      rcases hst with rfl | rfl | rfl | rfl | rfl | rfl | rfl
      · rw [if_neg (by decide), if_neg (by decide), if_neg (by decide), if_neg (by decide)] at hb
        exact take_next k _ _ _ _ _ _ _ _ _ _ _ _ _ _ _ _ _ _ _ _ _ _ _ _ _ _ _ w hr1_1 hc1_1 hn hg (fun n => ⟨0, _, rfl⟩) hb
      · rw [if_neg (by decide), if_neg (by decide), if_neg (by decide), if_neg (by decide)] at hb
        exact take_next k _ _ _ _ _ _ _ _ _ _ _ _ _ _ _ _ _ _ _ _ _ _ _ _ _ _ _ w hr1_1 hc1_1 hn hg (fun n => ⟨1, _, rfl⟩) hb
      · rw [if_neg (by decide), if_neg (by decide), if_neg (by decide), if_neg (by decide)] at hb
        exact take_next k _ _ _ _ _ _ _ _ _ _ _ _ _ _ _ _ _ _ _ _ _ _ _ _ _ _ _ w hr1_1 hc1_1 hn hg (fun n => ⟨2, _, rfl⟩) hb
      · rw [if_pos rfl] at hb
        exact take_counted k _ _ _ _ _ _ _ _ _ _ _ _ _ _ _ _ _ _ _ _ _ _ _ _ _ _ _ w hr1_1 hc1_1 hn hg (fun n => ⟨3, _, rfl⟩) hb
      · rw [if_neg (by decide), if_pos rfl] at hb
        exact take_samples k _ _ _ _ _ _ _ _ _ _ _ _ _ _ _ _ _ _ _ _ _ _ _ _ _ _ _ w hr1_1 hc1_1 hn hg (fun n => ⟨4, _, rfl⟩) hb
      · rw [if_neg (by decide), if_neg (by decide), if_pos rfl] at hb
        exact take_becomes k _ _ _ _ _ _ _ _ _ _ _ _ _ _ _ _ _ _ _ _ _ _ _ _ _ _ _ w hr1_1 hc1_1 hn hg (fun n => ⟨5, _, rfl⟩) (Option.some.inj hb)
      · rw [if_neg (by decide), if_neg (by decide), if_neg (by decide), if_pos rfl] at hb
        exact take_again k _ _ _ _ _ _ _ _ _ _ _ _ _ _ _ _ _ _ _ _ _ _ _ _ _ _ _ w hr1_1 hc1_1 hn hg (fun n => ⟨6, _, rfl⟩) hb

end Go.Proofs.Ytnlmbejkemkkoaa.PDrvExact
