import Derived.Test.YtfdfnmlbmijdjaaCut
import Derived.Test.YtfdfnmlbmijdjaaPRateExactx0
namespace Go.Proofs.Ytfdfnmlbmijdjaa.PRateExact
open Go.RowKit Go.Proofs.YtfdfnmlbmijdjaaW.PrintWords Go.Proofs.YtfdfnmlbmijdjaaW.PrintLast Go.Proofs.YtfdfnmlbmijdjaaW.PrintMore
attribute [local go_sem] max2_int min2_int max_two min_two max_three min_three max_four min_four   -- for this text's walks alone
set_option linter.unusedVariables false
set_option linter.unusedSimpArgs false

/-! ### gimbalref26_Needs: function 37 -/
mutual
def gimbalref26_Needs.j0 : Nat → Int → Int → Bool → Option (List Int)
 | 0, _, _, _ => none
 | k + 1, x0, x3, x4 => if x4 = true then (some (([1, 2, 3] : List Int))) else (if x3 = 7 then (gimbalref26_Needs.j1 k x0 x3 (x3 == 7)) else (if x3 = 8 then (gimbalref26_Needs.j1 k x0 x3 (x3 == 8)) else (gimbalref26_Needs.j1 k x0 x3 (x3 == 14))))
def gimbalref26_Needs.j1 : Nat → Int → Int → Bool → Option (List Int)
 | 0, _, _, _ => none
 | k + 1, x0, x3, x8 => if x8 = true then (some (([1, 2] : List Int))) else (if x3 = 10 then (some (([4] : List Int))) else (if x3 = 11 then (some (([1] : List Int))) else (if x3 = 12 then (some (([1] : List Int))) else (if x3 = 13 then (some (([1] : List Int))) else (if x3 = 15 then (some (([1] : List Int))) else (some (([x0] : List Int))))))))
end
def gimbalref26_Needs.f (k : Nat) (a0 : Int) : Option (List Int) := if a0 = 6 then (gimbalref26_Needs.j0 k a0 a0 (a0 == 6)) else (gimbalref26_Needs.j0 k a0 a0 (a0 == 9))
theorem gimbalref26_Needs.mono_l : ∀ k, (∀ y0 y1 y2, LeO (gimbalref26_Needs.j0 k y0 y1 y2) (gimbalref26_Needs.j0 (k + 1) y0 y1 y2)) ∧ (∀ y0 y1 y2, LeO (gimbalref26_Needs.j1 k y0 y1 y2) (gimbalref26_Needs.j1 (k + 1) y0 y1 y2))
 | 0 => ⟨fun _ _ _ r h => by simp [gimbalref26_Needs.j0] at h, fun _ _ _ r h => by simp [gimbalref26_Needs.j1] at h⟩
 | k + 1 => by
  obtain ⟨ih0, ih1⟩ := gimbalref26_Needs.mono_l k
  refine ⟨?_, ?_⟩
  ·intro y0 y1 y2
   unfold gimbalref26_Needs.j0
   repeat' first
   | (with_reducible exact ih0 _ _ _)
   | (with_reducible exact ih1 _ _ _)
   | (with_reducible exact LeO.refl _)
   | (with_reducible exact LeO.none _)
   | (with_reducible refine LeO.ite ?_ ?_)
   | (with_reducible refine LeO.bind ?_ (fun _ => ?_))
   | exact ih0 _ _ _
   | exact ih1 _ _ _
   | exact LeO.none _
   | refine LeO.ite ?_ ?_
   | refine LeO.bind ?_ (fun _ => ?_)
  ·intro y0 y1 y2
   unfold gimbalref26_Needs.j1
   repeat' first
   | (with_reducible exact ih0 _ _ _)
   | (with_reducible exact ih1 _ _ _)
   | (with_reducible exact LeO.refl _)
   | (with_reducible exact LeO.none _)
   | (with_reducible refine LeO.ite ?_ ?_)
   | (with_reducible refine LeO.bind ?_ (fun _ => ?_))
   | exact ih0 _ _ _
   | exact ih1 _ _ _
   | exact LeO.none _
   | refine LeO.ite ?_ ?_
   | refine LeO.bind ?_ (fun _ => ?_)
theorem gimbalref26_Needs.mono : ∀ a0 k, LeO (gimbalref26_Needs.f k a0) (gimbalref26_Needs.f (k + 1) a0) := by
 intro a0 k
 obtain ⟨ih0, ih1⟩ := gimbalref26_Needs.mono_l k
 unfold gimbalref26_Needs.f
 repeat' first
   | (with_reducible exact ih0 _ _ _)
   | (with_reducible exact ih1 _ _ _)
   | (with_reducible exact LeO.refl _)
   | (with_reducible exact LeO.none _)
   | (with_reducible refine LeO.ite ?_ ?_)
   | (with_reducible refine LeO.bind ?_ (fun _ => ?_))
   | exact ih0 _ _ _
   | exact ih1 _ _ _
   | exact LeO.none _
   | refine LeO.ite ?_ ?_
   | refine LeO.bind ?_ (fun _ => ?_)
set_option maxHeartbeats 8000000 in
set_option maxRecDepth 100000 in
theorem gimbalref26_Needs.calls (k : Nat) (a0 : Int) (r : List Int) (w : World) (h : gimbalref26_Needs.f k a0 = some r) :
  Calls Try.prog 37 #[.int .i64 a0] w fun e w' => ∃ v0_ : Value, e = .returned (v0_) ∧ Kd.R (Kd.int .i64) 3 w' w.heap.size (fun _ => True) v0_ r ∧ Below w.heap.size w w' := by
 have HB := Aside0.mk (Below.refl w.heap.size w)
 have H : (if a0 = 6 then (gimbalref26_Needs.j0 k a0 a0 (a0 == 6)) else (gimbalref26_Needs.j0 k a0 a0 (a0 == 9))) = some r := h
 clear h
 have HC2 := Aside0.mk H
 clear H
 go_enter Try.func37, Try.ntmps37
 go_upto_if 4 with (fail)
 refine Cu.wp_cut (Cu.rep 4 Cu.f (Cu.rep 4 Cu.t (Cu.rep 1 Cu.f (Cu.rep 4 Cu.t (Cu.rep 1 Cu.f (Cu.rep 2 Cu.t (Cu.rep 1 Cu.f (Cu.rep 7 Cu.t [])))))))) 17 (fun us_ wc => ∃ (kq : Nat) (x4_1 : Bool), (Cu.nth us_ 0) = .bool x4_1 ∧ Aside0 (gimbalref26_Needs.j0 kq a0 a0 x4_1 = some r) ∧ Aside0 (kq ≤ k) ∧ Aside0 (Below w.heap.size w wc)) ?_ ?_
 ·
  intro _ _ _ _
  have H := HC2.out
  clear HC2
  by_cases c3 : a0 = 6
  ·rw [if_pos c3] at H
   have c3b0 : (a0 == 6) = true := beq_iff_eq.mpr c3
   have c3b1 : (a0 != 6) = false := bne_eq_false_iff_eq.mpr c3
   clear c3
   (first | rw [c3b0] | (simp only [i64_w, i32_w]; rw [c3b0]) | skip)
   have H' := Aside0.mk H
   clear H
   go_wp2
   refine Cu.meet (by assumption) ?_ (by kernel_rfl) (by kernel_rfl)
   try dsimp only [Cu.pick, Cu.rep, Cu.nth]
   exact ⟨_, ((a0 == 6)), Sq.e, H', ⟨by first | omega | exact Nat.le_refl _⟩, ⟨Sq.w HB.out⟩⟩
  ·rw [if_neg c3] at H
   have c3b0 : (a0 == 6) = false := beq_eq_false_iff_ne.mpr c3
   have c3b1 : (a0 != 6) = true := bne_iff_ne.mpr c3
   (first | rw [c3b0] | (simp only [i64_w, i32_w]; rw [c3b0]) | skip)
   have H' := Aside0.mk H
   clear H
   go_wp2
   refine Cu.meet (by assumption) ?_ (by kernel_rfl) (by kernel_rfl)
   try dsimp only [Cu.pick, Cu.rep, Cu.nth]
   exact ⟨_, ((a0 == 9)), Sq.e, H', ⟨by first | omega | exact Nat.le_refl _⟩, ⟨Sq.w HB.out⟩⟩
 ·
  intro wc u4 u5 u6 u7 u9 u10 u11 u12 u14 u15 u17 u18 u19 u20 u21 u22 u23
  try dsimp only [Cu.over, Cu.rep, Cu.nth]
  intro hcut
  clear HC2
  obtain ⟨kq, x4_1, rfl, HA, HJ1, HB⟩ := hcut
  cases kq with
  | zero => exact absurd HA.out (by simp [gimbalref26_Needs.j0])
  | succ kj1 =>
   have H := HA.out
   clear HA
   simp only [gimbalref26_Needs.j0] at H
   by_cases c4 : x4_1 = true
   ·subst c4
    have H1 : (some (([1, 2, 3] : List Int))) = some r := by rw [if_pos rfl] at H; exact H
    clear H
    have H := H1
    clear H1
    obtain ⟨y147, hy147⟩ : ∃ y_ : List Int, y_ = (([1, 2, 3] : List Int)) := ⟨_, rfl⟩
    replace H : (some y147) = some r := by first | (rw [hy147]; with_reducible exact H) | (have H2_ := (Option.bind_some _ _).symm.trans H; rw [hy147]; with_reducible exact H2_) | (have H2_ := (Option.bind_some _ _).symm.trans H; with_reducible exact H2_) | with_reducible exact H | (rw [hy147]; exact H) | exact H
    have Ny147 := Aside0.mk hy147
    clear hy147
    obtain rfl := Option.some.inj H
    go_wp2_with (first | ((with_reducible refine gate_dst (N := 7) rfl ?_); refine Kd.R_lit (Kd.int .i64) _ 3 ?hg (N := 7) ?hd (xs := ([1, 2, 3] : List Int)) (inner := [.int .i64 1, .int .i64 2, .int .i64 3]) (ok := fun _ => True) (okp := fun _ => True) ?hr ?hp (fun _ hk => hk) trivial (Below.refl _ _) (Nat.le_refl _) (by simp) ?_; (case hd => rfl); (case hg => rfl); (case hr => first | (go_simp; done) | (go_simp; rfl)); (case hp => exact (Reps.one (show Kd.M (Kd.int .i64) _ _ _ 1 [.int .i64 1] from rfl) (Reps.one (show Kd.M (Kd.int .i64) _ _ _ 2 [.int .i64 2] from rfl) (Reps.one (show Kd.M (Kd.int .i64) _ _ _ 3 [.int .i64 3] from rfl) (Reps.none _ _))))); intro v148 w5 ho6 hb hg_ hnew_; clear hg_ hnew_; (first | rw [← Ny147.out] at ho6 | (simp only [Int.reduceToNat] at ho6; rw [← Ny147.out] at ho6)); have HO149 := Aside0.mk (Kd.R_lower ho6 (below_size (Sq.w HB.out))); replace HB := Sq.sw HB hb; clear hb ho6))
    go_ret
    exact ⟨_, by first | rfl | (simp [errW_none, errW_some] <;> rfl) | (simp [*, errW_none, errW_some] <;> rfl), by (with_reducible repeat (first | apply Kd.R_alloc | apply Kd.R_drewN | apply Kd.R_drew)); exact HO149.out, Sq.w HB.out⟩
   ·replace c4 := Bool.eq_false_iff.mpr c4
    subst c4
    have H1 : (if a0 = 7 then (gimbalref26_Needs.j1 kj1 a0 a0 (a0 == 7)) else (if a0 = 8 then (gimbalref26_Needs.j1 kj1 a0 a0 (a0 == 8)) else (gimbalref26_Needs.j1 kj1 a0 a0 (a0 == 14)))) = some r := by rw [if_neg (show ¬ (false = true) by decide)] at H; exact H
    clear H
    have H := H1
    clear H1
    have HC7 := Aside0.mk H
    clear H
    go_upto_if 8 with (fail)
    refine Cu.wp_cut (Cu.rep 5 Cu.f (Cu.rep 8 Cu.t (Cu.rep 1 Cu.f (Cu.rep 2 Cu.t (Cu.rep 1 Cu.f (Cu.rep 7 Cu.t [])))))) 17 (fun us_ wc => ∃ (kq : Nat) (x8_6 : Bool), (Cu.nth us_ 3) = .bool x8_6 ∧ Aside0 (gimbalref26_Needs.j1 kq a0 a0 x8_6 = some r) ∧ Aside0 (kq ≤ kj1) ∧ Aside0 (Below w.heap.size w wc)) ?_ ?_
    ·
     intro _ _ _ _
     have H := HC7.out
     clear HC7
     by_cases c8 : a0 = 7
     ·rw [if_pos c8] at H
      have c8b0 : (a0 == 7) = true := beq_iff_eq.mpr c8
      have c8b1 : (a0 != 7) = false := bne_eq_false_iff_eq.mpr c8
      clear c8
      (first | rw [c8b0] | (simp only [i64_w, i32_w]; rw [c8b0]) | skip)
      have H' := Aside0.mk H
      clear H
      go_wp2
      refine Cu.meet (by assumption) ?_ (by kernel_rfl) (by kernel_rfl)
      try dsimp only [Cu.pick, Cu.rep, Cu.nth]
      exact ⟨_, ((a0 == 7)), Sq.e, H', ⟨by have := HJ1.out; first | omega | exact Nat.le_refl _⟩, ⟨Sq.w HB.out⟩⟩
     ·rw [if_neg c8] at H
      have c8b0 : (a0 == 7) = false := beq_eq_false_iff_ne.mpr c8
      have c8b1 : (a0 != 7) = true := bne_iff_ne.mpr c8
      (first | rw [c8b0] | (simp only [i64_w, i32_w]; rw [c8b0]) | skip)
      by_cases c9 : a0 = 8
      ·rw [if_pos c9] at H
       have c9b0 : (a0 == 8) = true := beq_iff_eq.mpr c9
       have c9b1 : (a0 != 8) = false := bne_eq_false_iff_eq.mpr c9
       clear c9
       have H' := Aside0.mk H
       clear H
       go_wp2
       refine Cu.meet (by assumption) ?_ (by kernel_rfl) (by kernel_rfl)
       try dsimp only [Cu.pick, Cu.rep, Cu.nth]
       exact ⟨_, ((a0 == 8)), Sq.e, H', ⟨by have := HJ1.out; first | omega | exact Nat.le_refl _⟩, ⟨Sq.w HB.out⟩⟩
      ·rw [if_neg c9] at H
       have c9b0 : (a0 == 8) = false := beq_eq_false_iff_ne.mpr c9
       have c9b1 : (a0 != 8) = true := bne_iff_ne.mpr c9
       have H' := Aside0.mk H
       clear H
       go_wp2
       refine Cu.meet (by assumption) ?_ (by kernel_rfl) (by kernel_rfl)
       try dsimp only [Cu.pick, Cu.rep, Cu.nth]
       exact ⟨_, ((a0 == 14)), Sq.e, H', ⟨by have := HJ1.out; first | omega | exact Nat.le_refl _⟩, ⟨Sq.w HB.out⟩⟩
    ·
     intro wc u5 u6 u7 u8 u9 u10 u11 u12 u14 u15 u17 u18 u19 u20 u21 u22 u23
     try dsimp only [Cu.over, Cu.rep, Cu.nth]
     intro hcut
     clear HC7; (try clear c4)
     obtain ⟨kq, x8_6, rfl, HA, HJ6, HB⟩ := hcut
     cases kq with
     | zero => exact absurd HA.out (by simp [gimbalref26_Needs.j1])
     | succ kj6 =>
      have H := HA.out
      clear HA
      simp only [gimbalref26_Needs.j1] at H
      by_cases c10 : x8_6 = true
      ·subst c10
       have H1 : (some (([1, 2] : List Int))) = some r := by rw [if_pos rfl] at H; exact H
       clear H
       have H := H1
       clear H1
       obtain ⟨y150, hy150⟩ : ∃ y_ : List Int, y_ = (([1, 2] : List Int)) := ⟨_, rfl⟩
       replace H : (some y150) = some r := by first | (rw [hy150]; with_reducible exact H) | (have H2_ := (Option.bind_some _ _).symm.trans H; rw [hy150]; with_reducible exact H2_) | (have H2_ := (Option.bind_some _ _).symm.trans H; with_reducible exact H2_) | with_reducible exact H | (rw [hy150]; exact H) | exact H
       have Ny150 := Aside0.mk hy150
       clear hy150
       obtain rfl := Option.some.inj H
       go_wp2_with (first | ((with_reducible refine gate_dst (N := 12) rfl ?_); refine Kd.R_lit (Kd.int .i64) _ 3 ?hg (N := 12) ?hd (xs := ([1, 2] : List Int)) (inner := [.int .i64 1, .int .i64 2]) (ok := fun _ => True) (okp := fun _ => True) ?hr ?hp (fun _ hk => hk) trivial (Below.refl _ _) (Nat.le_refl _) (by simp) ?_; (case hd => rfl); (case hg => rfl); (case hr => first | (go_simp; done) | (go_simp; rfl)); (case hp => exact (Reps.one (show Kd.M (Kd.int .i64) _ _ _ 1 [.int .i64 1] from rfl) (Reps.one (show Kd.M (Kd.int .i64) _ _ _ 2 [.int .i64 2] from rfl) (Reps.none _ _)))); intro v151 w11 ho12 hb hg_ hnew_; clear hg_ hnew_; (first | rw [← Ny150.out] at ho12 | (simp only [Int.reduceToNat] at ho12; rw [← Ny150.out] at ho12)); have HO152 := Aside0.mk (Kd.R_lower ho12 (below_size (Sq.w HB.out))); replace HB := Sq.sw HB hb; clear hb ho12))
       go_ret
       exact ⟨_, by first | rfl | (simp [errW_none, errW_some] <;> rfl) | (simp [*, errW_none, errW_some] <;> rfl), by (with_reducible repeat (first | apply Kd.R_alloc | apply Kd.R_drewN | apply Kd.R_drew)); exact HO152.out, Sq.w HB.out⟩
      ·replace c10 := Bool.eq_false_iff.mpr c10
       subst c10
       have H1 : (if a0 = 10 then (some (([4] : List Int))) else (if a0 = 11 then (some (([1] : List Int))) else (if a0 = 12 then (some (([1] : List Int))) else (if a0 = 13 then (some (([1] : List Int))) else (if a0 = 15 then (some (([1] : List Int))) else (some (([a0] : List Int)))))))) = some r := by rw [if_neg (show ¬ (false = true) by decide)] at H; exact H
       clear H
       have H := H1
       clear H1
       by_cases c13 : a0 = 10
       ·rw [if_pos c13] at H
        have c13b0 : (a0 == 10) = true := beq_iff_eq.mpr c13
        have c13b1 : (a0 != 10) = false := bne_eq_false_iff_eq.mpr c13
        clear c13
        obtain ⟨y153, hy153⟩ : ∃ y_ : List Int, y_ = (([4] : List Int)) := ⟨_, rfl⟩
        replace H : (some y153) = some r := by first | (rw [hy153]; with_reducible exact H) | (have H2_ := (Option.bind_some _ _).symm.trans H; rw [hy153]; with_reducible exact H2_) | (have H2_ := (Option.bind_some _ _).symm.trans H; with_reducible exact H2_) | with_reducible exact H | (rw [hy153]; exact H) | exact H
        have Ny153 := Aside0.mk hy153
        clear hy153
        obtain rfl := Option.some.inj H
        go_wp2_with (first | ((with_reducible refine gate_dst (N := 15) rfl ?_); refine Kd.R_lit (Kd.int .i64) _ 3 ?hg (N := 15) ?hd (xs := ([4] : List Int)) (inner := [.int .i64 4]) (ok := fun _ => True) (okp := fun _ => True) ?hr ?hp (fun _ hk => hk) trivial (Below.refl _ _) (Nat.le_refl _) (by simp) ?_; (case hd => rfl); (case hg => rfl); (case hr => first | (go_simp; done) | (go_simp; rfl)); (case hp => exact (Reps.one (show Kd.M (Kd.int .i64) _ _ _ 4 [.int .i64 4] from rfl) (Reps.none _ _))); intro v154 w14 ho15 hb hg_ hnew_; clear hg_ hnew_; (first | rw [← Ny153.out] at ho15 | (simp only [Int.reduceToNat] at ho15; rw [← Ny153.out] at ho15)); have HO155 := Aside0.mk (Kd.R_lower ho15 (below_size (Sq.w HB.out))); replace HB := Sq.sw HB hb; clear hb ho15))
        go_ret
        exact ⟨_, by first | rfl | (simp [errW_none, errW_some] <;> rfl) | (simp [*, errW_none, errW_some] <;> rfl), by (with_reducible repeat (first | apply Kd.R_alloc | apply Kd.R_drewN | apply Kd.R_drew)); exact HO155.out, Sq.w HB.out⟩
       ·rw [if_neg c13] at H
        have c13b0 : (a0 == 10) = false := beq_eq_false_iff_ne.mpr c13
        have c13b1 : (a0 != 10) = true := bne_iff_ne.mpr c13
        by_cases c16 : a0 = 11
        ·rw [if_pos c16] at H
         have c16b0 : (a0 == 11) = true := beq_iff_eq.mpr c16
         have c16b1 : (a0 != 11) = false := bne_eq_false_iff_eq.mpr c16
         clear c16
         obtain ⟨y156, hy156⟩ : ∃ y_ : List Int, y_ = (([1] : List Int)) := ⟨_, rfl⟩
         replace H : (some y156) = some r := by first | (rw [hy156]; with_reducible exact H) | (have H2_ := (Option.bind_some _ _).symm.trans H; rw [hy156]; with_reducible exact H2_) | (have H2_ := (Option.bind_some _ _).symm.trans H; with_reducible exact H2_) | with_reducible exact H | (rw [hy156]; exact H) | exact H
         have Ny156 := Aside0.mk hy156
         clear hy156
         obtain rfl := Option.some.inj H
         go_wp2_with (first | ((with_reducible refine gate_dst (N := 21) rfl ?_); refine Kd.R_lit (Kd.int .i64) _ 3 ?hg (N := 21) ?hd (xs := ([1] : List Int)) (inner := [.int .i64 1]) (ok := fun _ => True) (okp := fun _ => True) ?hr ?hp (fun _ hk => hk) trivial (Below.refl _ _) (Nat.le_refl _) (by simp) ?_; (case hd => rfl); (case hg => rfl); (case hr => first | (go_simp; done) | (go_simp; rfl)); (case hp => exact (Reps.one (show Kd.M (Kd.int .i64) _ _ _ 1 [.int .i64 1] from rfl) (Reps.none _ _))); intro v157 w17 ho18 hb hg_ hnew_; clear hg_ hnew_; (first | rw [← Ny156.out] at ho18 | (simp only [Int.reduceToNat] at ho18; rw [← Ny156.out] at ho18)); have HO158 := Aside0.mk (Kd.R_lower ho18 (below_size (Sq.w HB.out))); replace HB := Sq.sw HB hb; clear hb ho18))
         go_ret
         exact ⟨_, by first | rfl | (simp [errW_none, errW_some] <;> rfl) | (simp [*, errW_none, errW_some] <;> rfl), by (with_reducible repeat (first | apply Kd.R_alloc | apply Kd.R_drewN | apply Kd.R_drew)); exact HO158.out, Sq.w HB.out⟩
        ·rw [if_neg c16] at H
         have c16b0 : (a0 == 11) = false := beq_eq_false_iff_ne.mpr c16
         have c16b1 : (a0 != 11) = true := bne_iff_ne.mpr c16
         by_cases c19 : a0 = 12
         ·rw [if_pos c19] at H
          have c19b0 : (a0 == 12) = true := beq_iff_eq.mpr c19
          have c19b1 : (a0 != 12) = false := bne_eq_false_iff_eq.mpr c19
          clear c19
          obtain ⟨y159, hy159⟩ : ∃ y_ : List Int, y_ = (([1] : List Int)) := ⟨_, rfl⟩
          replace H : (some y159) = some r := by first | (rw [hy159]; with_reducible exact H) | (have H2_ := (Option.bind_some _ _).symm.trans H; rw [hy159]; with_reducible exact H2_) | (have H2_ := (Option.bind_some _ _).symm.trans H; with_reducible exact H2_) | with_reducible exact H | (rw [hy159]; exact H) | exact H
          have Ny159 := Aside0.mk hy159
          clear hy159
          obtain rfl := Option.some.inj H
          go_wp2_with (first | ((with_reducible refine gate_dst (N := 21) rfl ?_); refine Kd.R_lit (Kd.int .i64) _ 3 ?hg (N := 21) ?hd (xs := ([1] : List Int)) (inner := [.int .i64 1]) (ok := fun _ => True) (okp := fun _ => True) ?hr ?hp (fun _ hk => hk) trivial (Below.refl _ _) (Nat.le_refl _) (by simp) ?_; (case hd => rfl); (case hg => rfl); (case hr => first | (go_simp; done) | (go_simp; rfl)); (case hp => exact (Reps.one (show Kd.M (Kd.int .i64) _ _ _ 1 [.int .i64 1] from rfl) (Reps.none _ _))); intro v160 w20 ho21 hb hg_ hnew_; clear hg_ hnew_; (first | rw [← Ny159.out] at ho21 | (simp only [Int.reduceToNat] at ho21; rw [← Ny159.out] at ho21)); have HO161 := Aside0.mk (Kd.R_lower ho21 (below_size (Sq.w HB.out))); replace HB := Sq.sw HB hb; clear hb ho21))
          go_ret
          exact ⟨_, by first | rfl | (simp [errW_none, errW_some] <;> rfl) | (simp [*, errW_none, errW_some] <;> rfl), by (with_reducible repeat (first | apply Kd.R_alloc | apply Kd.R_drewN | apply Kd.R_drew)); exact HO161.out, Sq.w HB.out⟩
         ·rw [if_neg c19] at H
          have c19b0 : (a0 == 12) = false := beq_eq_false_iff_ne.mpr c19
          have c19b1 : (a0 != 12) = true := bne_iff_ne.mpr c19
          by_cases c22 : a0 = 13
          ·rw [if_pos c22] at H
           have c22b0 : (a0 == 13) = true := beq_iff_eq.mpr c22
           have c22b1 : (a0 != 13) = false := bne_eq_false_iff_eq.mpr c22
           clear c22
           obtain ⟨y162, hy162⟩ : ∃ y_ : List Int, y_ = (([1] : List Int)) := ⟨_, rfl⟩
           replace H : (some y162) = some r := by first | (rw [hy162]; with_reducible exact H) | (have H2_ := (Option.bind_some _ _).symm.trans H; rw [hy162]; with_reducible exact H2_) | (have H2_ := (Option.bind_some _ _).symm.trans H; with_reducible exact H2_) | with_reducible exact H | (rw [hy162]; exact H) | exact H
           have Ny162 := Aside0.mk hy162
           clear hy162
           obtain rfl := Option.some.inj H
           go_wp2_with (first | ((with_reducible refine gate_dst (N := 21) rfl ?_); refine Kd.R_lit (Kd.int .i64) _ 3 ?hg (N := 21) ?hd (xs := ([1] : List Int)) (inner := [.int .i64 1]) (ok := fun _ => True) (okp := fun _ => True) ?hr ?hp (fun _ hk => hk) trivial (Below.refl _ _) (Nat.le_refl _) (by simp) ?_; (case hd => rfl); (case hg => rfl); (case hr => first | (go_simp; done) | (go_simp; rfl)); (case hp => exact (Reps.one (show Kd.M (Kd.int .i64) _ _ _ 1 [.int .i64 1] from rfl) (Reps.none _ _))); intro v163 w23 ho24 hb hg_ hnew_; clear hg_ hnew_; (first | rw [← Ny162.out] at ho24 | (simp only [Int.reduceToNat] at ho24; rw [← Ny162.out] at ho24)); have HO164 := Aside0.mk (Kd.R_lower ho24 (below_size (Sq.w HB.out))); replace HB := Sq.sw HB hb; clear hb ho24))
           go_ret
           exact ⟨_, by first | rfl | (simp [errW_none, errW_some] <;> rfl) | (simp [*, errW_none, errW_some] <;> rfl), by (with_reducible repeat (first | apply Kd.R_alloc | apply Kd.R_drewN | apply Kd.R_drew)); exact HO164.out, Sq.w HB.out⟩
          ·rw [if_neg c22] at H
           have c22b0 : (a0 == 13) = false := beq_eq_false_iff_ne.mpr c22
           have c22b1 : (a0 != 13) = true := bne_iff_ne.mpr c22
           by_cases c25 : a0 = 15
           ·rw [if_pos c25] at H
            have c25b0 : (a0 == 15) = true := beq_iff_eq.mpr c25
            have c25b1 : (a0 != 15) = false := bne_eq_false_iff_eq.mpr c25
            clear c25
            obtain ⟨y165, hy165⟩ : ∃ y_ : List Int, y_ = (([1] : List Int)) := ⟨_, rfl⟩
            replace H : (some y165) = some r := by first | (rw [hy165]; with_reducible exact H) | (have H2_ := (Option.bind_some _ _).symm.trans H; rw [hy165]; with_reducible exact H2_) | (have H2_ := (Option.bind_some _ _).symm.trans H; with_reducible exact H2_) | with_reducible exact H | (rw [hy165]; exact H) | exact H
            have Ny165 := Aside0.mk hy165
            clear hy165
            obtain rfl := Option.some.inj H
            go_wp2_with (first | ((with_reducible refine gate_dst (N := 21) rfl ?_); refine Kd.R_lit (Kd.int .i64) _ 3 ?hg (N := 21) ?hd (xs := ([1] : List Int)) (inner := [.int .i64 1]) (ok := fun _ => True) (okp := fun _ => True) ?hr ?hp (fun _ hk => hk) trivial (Below.refl _ _) (Nat.le_refl _) (by simp) ?_; (case hd => rfl); (case hg => rfl); (case hr => first | (go_simp; done) | (go_simp; rfl)); (case hp => exact (Reps.one (show Kd.M (Kd.int .i64) _ _ _ 1 [.int .i64 1] from rfl) (Reps.none _ _))); intro v166 w26 ho27 hb hg_ hnew_; clear hg_ hnew_; (first | rw [← Ny165.out] at ho27 | (simp only [Int.reduceToNat] at ho27; rw [← Ny165.out] at ho27)); have HO167 := Aside0.mk (Kd.R_lower ho27 (below_size (Sq.w HB.out))); replace HB := Sq.sw HB hb; clear hb ho27))
            go_ret
            exact ⟨_, by first | rfl | (simp [errW_none, errW_some] <;> rfl) | (simp [*, errW_none, errW_some] <;> rfl), by (with_reducible repeat (first | apply Kd.R_alloc | apply Kd.R_drewN | apply Kd.R_drew)); exact HO167.out, Sq.w HB.out⟩
           ·rw [if_neg c25] at H
            have c25b0 : (a0 == 15) = false := beq_eq_false_iff_ne.mpr c25
            have c25b1 : (a0 != 15) = true := bne_iff_ne.mpr c25
            obtain ⟨y168, hy168⟩ : ∃ y_ : List Int, y_ = (([a0] : List Int)) := ⟨_, rfl⟩
            replace H : (some y168) = some r := by first | (rw [hy168]; with_reducible exact H) | (have H2_ := (Option.bind_some _ _).symm.trans H; rw [hy168]; with_reducible exact H2_) | (have H2_ := (Option.bind_some _ _).symm.trans H; with_reducible exact H2_) | with_reducible exact H | (rw [hy168]; exact H) | exact H
            have Ny168 := Aside0.mk hy168
            clear hy168
            obtain rfl := Option.some.inj H
            go_wp2_with (first | ((with_reducible refine gate_dst (N := 23) rfl ?_); refine Kd.R_lit (Kd.int .i64) _ 3 ?hg (N := 23) ?hd (xs := ([a0] : List Int)) (inner := [.int .i64 a0]) (ok := fun _ => True) (okp := fun _ => True) ?hr ?hp (fun _ hk => hk) trivial (Below.refl _ _) (Nat.le_refl _) (by simp) ?_; (case hd => rfl); (case hg => rfl); (case hr => first | (go_simp; done) | (go_simp; rfl)); (case hp => exact (Reps.one (show Kd.M (Kd.int .i64) _ _ _ a0 [.int .i64 a0] from rfl) (Reps.none _ _))); intro v169 w28 ho29 hb hg_ hnew_; clear hg_ hnew_; (first | rw [← Ny168.out] at ho29 | (simp only [Int.reduceToNat] at ho29; rw [← Ny168.out] at ho29)); have HO170 := Aside0.mk (Kd.R_lower ho29 (below_size (Sq.w HB.out))); replace HB := Sq.sw HB hb; clear hb ho29))
            go_ret
            exact ⟨_, by first | rfl | (simp [errW_none, errW_some] <;> rfl) | (simp [*, errW_none, errW_some] <;> rfl), by (with_reducible repeat (first | apply Kd.R_alloc | apply Kd.R_drewN | apply Kd.R_drew)); exact HO170.out, Sq.w HB.out⟩

-- NOT PRINTED: function 23 (gimbalref26_Table_Needing)

/-! ### power_Of_int: function 55 -/
def power_Of_int.l0 : Nat → Int → List Int → Int → Int → Option (Int)
 | 0, _, _, _, _ => none
 | k + 1, x2, x5, x6, x7 => if x7 < x6 then (if 0 ≤ x7 then (if x7 < (x5.length : Int) then (if 0 ≤ (rd x5 x7) then (power_Of_int.l0 k (Go.bits .or .u32 x2 (shl .u32 1 (rd x5 x7))) x5 x6 (wrap64 (x7 + 1))) else (none)) else (none)) else (none)) else (some x2)
def power_Of_int.f (k : Nat) (l0 : List Int) : Option (Int) := power_Of_int.l0 k 0 l0 (l0.length : Int) 0
theorem power_Of_int.mono_l : ∀ k, (∀ y0 y1 y2 y3, LeO (power_Of_int.l0 k y0 y1 y2 y3) (power_Of_int.l0 (k + 1) y0 y1 y2 y3))
 | 0 => fun _ _ _ _ r h => by simp [power_Of_int.l0] at h
 | k + 1 => by
  have ih0 := power_Of_int.mono_l k
  ·intro y0 y1 y2 y3
   unfold power_Of_int.l0
   repeat' first
   | (with_reducible exact ih0 _ _ _ _)
   | (with_reducible exact LeO.refl _)
   | (with_reducible exact LeO.none _)
   | (with_reducible refine LeO.ite ?_ ?_)
   | (with_reducible refine LeO.bind ?_ (fun _ => ?_))
   | exact ih0 _ _ _ _
   | exact LeO.none _
   | refine LeO.ite ?_ ?_
   | refine LeO.bind ?_ (fun _ => ?_)
theorem power_Of_int.mono : ∀ a0 k, LeO (power_Of_int.f k a0) (power_Of_int.f (k + 1) a0) := by
 intro a0 k
 have ih0 := power_Of_int.mono_l k
 unfold power_Of_int.f
 repeat' first
   | (with_reducible exact ih0 _ _ _ _)
   | (with_reducible exact LeO.refl _)
   | (with_reducible exact LeO.none _)
   | (with_reducible refine LeO.ite ?_ ?_)
   | (with_reducible refine LeO.bind ?_ (fun _ => ?_))
   | exact ih0 _ _ _ _
   | exact LeO.none _
   | refine LeO.ite ?_ ?_
   | refine LeO.bind ?_ (fun _ => ?_)
set_option maxHeartbeats 8000000 in
set_option maxRecDepth 100000 in
theorem power_Of_int.calls (k : Nat) (A0 : Option Addr) (c0 : Nat) (l0 : List Int) (r : Int) (w : World) (hr0 : Kd.C (Kd.int .i64) w A0 l0.length l0) (hc0 : l0.length ≤ c0) (h : power_Of_int.f k l0 = some r) :
  Calls Try.prog 55 #[.slice A0 l0.length c0] w fun e w' => e = .returned (.int .u32 r) ∧ Drawn0 w w' := by
 have HR0 := Aside0.mk hr0
 have HC0 := Aside0.mk hc0
 clear hr0 hc0
 have H : (power_Of_int.l0 k 0 l0 (l0.length : Int) 0) = some r := h
 clear h
 have H' := Aside0.mk H
 clear H
 go_enter Try.func55, Try.ntmps55
 go_wp2
 refine Cu.wp_loop (Cu.rep 2 Cu.f (Cu.rep 1 Cu.t (Cu.rep 1 Cu.f (Cu.rep 1 Cu.t (Cu.rep 2 Cu.f (Cu.rep 9 Cu.t (Cu.rep 1 Cu.f []))))))) 11 (fun kq us_ w' => ∃ (x2_1 : Int) (x7_1 : Int), (Cu.nth us_ 0) = .int .u32 x2_1 ∧ (Cu.nth us_ 2) = .int .i64 x7_1 ∧ Aside0 (power_Of_int.l0 kq x2_1 l0 (l0.length : Int) x7_1 = some r) ∧ Aside0 (kq ≤ k) ∧ Drawn0 w w') k ?_ (by kernel_rfl) (by kernel_rfl) ?_
 · try dsimp only [Cu.pick, Cu.rep, Cu.nth]
   exact ⟨(0), (0), Sq.e, Sq.e, H', ⟨Nat.le_refl _⟩, by repeat (first | exact Drawn0.refl _ | apply Drawn0.step)⟩
 ·
  intro gk wr u2 u4 u7 u8 u9 u10 u11 u12 u13 u14 u15
  try dsimp only [Cu.over, Cu.rep, Cu.nth]
  intro hrel _ _ _ _
  clear H'
  obtain ⟨x2_1, x7_1, rfl, rfl, HA, HK1, ⟨m1, rfl⟩⟩ := hrel
  cases gk with
  | zero => exact absurd HA.out (by simp [power_Of_int.l0])
  | succ k1 =>
   have H := HA.out
   clear HA
   simp only [power_Of_int.l0] at H
   by_cases c2 : x7_1 < (l0.length : Int)
   ·rw [if_pos c2] at H
    have c2b0 : decide (x7_1 < (l0.length : Int)) = true := decide_eq_true c2
    clear c2
    by_cases c3 : 0 ≤ x7_1
    ·rw [if_pos c3] at H
     have c3b0 : decide (0 ≤ x7_1) = true := decide_eq_true c3
     clear c3
     by_cases c4 : x7_1 < (l0.length : Int)
     ·rw [if_pos c4] at H
      have c4b0 : decide (x7_1 < (l0.length : Int)) = true := decide_eq_true c4
      clear c4
      by_cases c5 : 0 ≤ (rd l0 x7_1)
      ·rw [if_pos c5] at H
       have c5b0 := eq_true c5
       have c5b1 : decide (0 ≤ (rd l0 x7_1)) = true := decide_eq_true c5
       clear c5
       obtain ⟨ji6, hji6⟩ : ∃ j_ : Int, (shl .u32 1 (rd l0 x7_1)) = j_ := ⟨_, rfl⟩
       replace H : (power_Of_int.l0 k1 (Go.bits .or .u32 x2_1 (ji6)) l0 (l0.length : Int) (wrap64 (x7_1 + 1))) = some r := by first | (rw [hji6] at H; exact H) | (simp only [hji6] at H ⊢; exact H)
       have hji6_ : (IntKind.u32.wrap (1 * 2 ^ min (rd l0 x7_1).toNat 32)) = ji6 := hji6
       have hji6z : (rd l0 x7_1) ≤ 32 → (IntKind.u32.wrap (1 * 2 ^ (rd l0 x7_1).toNat)) = ji6 := shl_small hji6
       have hji6u : (IntKind.u32.wrap (2 ^ min (rd l0 x7_1).toNat 32)) = ji6 := by have h_ := hji6_; rw [Int.one_mul] at h_; exact h_
       have hji6v : (rd l0 x7_1) ≤ 32 → (IntKind.u32.wrap (2 ^ (rd l0 x7_1).toNat)) = ji6 := fun hle_ => by have h_ := hji6z hle_; rw [Int.one_mul] at h_; exact h_
       have H' := Aside0.mk H
       clear H
       have p182 : 0 ≤ (x7_1 : Int) := of_decide_eq_true (by first | (with_reducible assumption) | assumption)
       have q182 : x7_1 < (l0.length : Int) := of_decide_eq_true (by first | (with_reducible assumption) | assumption)
       obtain ⟨ad182, e182, hx182_0⟩ := Kd.at_int HR0.out x7_1 p182 q182
       cases e182
       replace p182 := eq_true p182
       replace q182 := eq_true q182
       go_wp2
       refine Cu.handed k1 (by have := HK1.out; omega) (by assumption) ?_ (by kernel_rfl) (by kernel_rfl)
       try dsimp only [Cu.pick, Cu.rep, Cu.nth]
       exact ⟨(Go.bits .or .u32 x2_1 (ji6)), (wrap64 (x7_1 + 1)), (by first | rfl | (simp; done) | (simp only [← hji6] <;> (first | rfl | simp)) | (simp [*]; done)), Sq.e, H', ⟨by have := HK1.out; omega⟩, by repeat (first | exact Drawn0.refl _ | apply Drawn0.step)⟩
      ·rw [if_neg c5] at H
       exact absurd H (by simp)
     ·rw [if_neg c4] at H
      exact absurd H (by simp)
    ·rw [if_neg c3] at H
     exact absurd H (by simp)
   ·rw [if_neg c2] at H
    have c2b0 : decide (x7_1 < (l0.length : Int)) = false := decide_eq_false c2
    clear c2
    obtain rfl := Option.some.inj H
    go_wp2
    go_ret
    exact ⟨by first | rfl | (simp; done) | (simp [*]; done), by repeat (first | exact Drawn0.refl _ | apply Drawn0.step)⟩

/-! ### power_needs: function 47 -/
mutual
def power_needs.j0 : Nat → Int → Int → Int → Bool → Option (Int)
 | 0, _, _, _, _ => none
 | k + 1, x0, x3, x6, x7 => if x7 = true then ((power_Of_int.f k (([3] : List Int))).bind fun t190 => (some (Go.bits .or .u32 x3 t190))) else (if x6 = 7 then (power_needs.j1 k x0 x3 x6 (x6 == 7)) else (if x6 = 8 then (power_needs.j1 k x0 x3 x6 (x6 == 8)) else (power_needs.j1 k x0 x3 x6 (x6 == 14))))
def power_needs.j1 : Nat → Int → Int → Int → Bool → Option (Int)
 | 0, _, _, _, _ => none
 | k + 1, x0, x3, x6, x14 => if x14 = true then (some x3) else (if x6 = 10 then ((power_Of_int.f k (([4] : List Int))).bind fun t194 => (some t194)) else (if x6 = 11 then (power_needs.j2 k x0 (x6 == 11)) else (if x6 = 12 then (power_needs.j2 k x0 (x6 == 12)) else (if x6 = 13 then (power_needs.j2 k x0 (x6 == 13)) else (power_needs.j2 k x0 (x6 == 15))))))
def power_needs.j2 : Nat → Int → Bool → Option (Int)
 | 0, _, _ => none
 | k + 1, x0, x23 => if x23 = true then ((power_Of_int.f k (([1] : List Int))).bind fun t198 => (some t198)) else ((power_Of_int.f k (([x0] : List Int))).bind fun t202 => (some t202))
end
def power_needs.f (k : Nat) (a0 : Int) : Option (Int) := (power_Of_int.f k (([1, 2] : List Int))).bind fun t186 => (if a0 = 6 then (power_needs.j0 k a0 t186 a0 (a0 == 6)) else (power_needs.j0 k a0 t186 a0 (a0 == 9)))
theorem power_needs.mono_l : ∀ k, (∀ y0 y1 y2 y3, LeO (power_needs.j0 k y0 y1 y2 y3) (power_needs.j0 (k + 1) y0 y1 y2 y3)) ∧ (∀ y0 y1 y2 y3, LeO (power_needs.j1 k y0 y1 y2 y3) (power_needs.j1 (k + 1) y0 y1 y2 y3)) ∧ (∀ y0 y1, LeO (power_needs.j2 k y0 y1) (power_needs.j2 (k + 1) y0 y1))
 | 0 => ⟨fun _ _ _ _ r h => by simp [power_needs.j0] at h, fun _ _ _ _ r h => by simp [power_needs.j1] at h, fun _ _ r h => by simp [power_needs.j2] at h⟩
 | k + 1 => by
  obtain ⟨ih0, ih1, ih2⟩ := power_needs.mono_l k
  refine ⟨?_, ?_, ?_⟩
  ·intro y0 y1 y2 y3
   unfold power_needs.j0
   repeat' first
   | (with_reducible exact ih0 _ _ _ _)
   | (with_reducible exact ih1 _ _ _ _)
   | (with_reducible exact ih2 _ _)
   | (with_reducible exact power_Of_int.mono _ _)
   | (with_reducible exact LeO.refl _)
   | (with_reducible exact LeO.none _)
   | (with_reducible refine LeO.ite ?_ ?_)
   | (with_reducible refine LeO.bind ?_ (fun _ => ?_))
   | exact ih0 _ _ _ _
   | exact ih1 _ _ _ _
   | exact ih2 _ _
   | exact power_Of_int.mono _ _
   | exact LeO.none _
   | refine LeO.ite ?_ ?_
   | refine LeO.bind ?_ (fun _ => ?_)
  ·intro y0 y1 y2 y3
   unfold power_needs.j1
   repeat' first
   | (with_reducible exact ih0 _ _ _ _)
   | (with_reducible exact ih1 _ _ _ _)
   | (with_reducible exact ih2 _ _)
   | (with_reducible exact power_Of_int.mono _ _)
   | (with_reducible exact LeO.refl _)
   | (with_reducible exact LeO.none _)
   | (with_reducible refine LeO.ite ?_ ?_)
   | (with_reducible refine LeO.bind ?_ (fun _ => ?_))
   | exact ih0 _ _ _ _
   | exact ih1 _ _ _ _
   | exact ih2 _ _
   | exact power_Of_int.mono _ _
   | exact LeO.none _
   | refine LeO.ite ?_ ?_
   | refine LeO.bind ?_ (fun _ => ?_)
  ·intro y0 y1
   unfold power_needs.j2
   repeat' first
   | (with_reducible exact ih0 _ _ _ _)
   | (with_reducible exact ih1 _ _ _ _)
   | (with_reducible exact ih2 _ _)
   | (with_reducible exact power_Of_int.mono _ _)
   | (with_reducible exact LeO.refl _)
   | (with_reducible exact LeO.none _)
   | (with_reducible refine LeO.ite ?_ ?_)
   | (with_reducible refine LeO.bind ?_ (fun _ => ?_))
   | exact ih0 _ _ _ _
   | exact ih1 _ _ _ _
   | exact ih2 _ _
   | exact power_Of_int.mono _ _
   | exact LeO.none _
   | refine LeO.ite ?_ ?_
   | refine LeO.bind ?_ (fun _ => ?_)
theorem power_needs.mono : ∀ a0 k, LeO (power_needs.f k a0) (power_needs.f (k + 1) a0) := by
 intro a0 k
 obtain ⟨ih0, ih1, ih2⟩ := power_needs.mono_l k
 unfold power_needs.f
 repeat' first
   | (with_reducible exact ih0 _ _ _ _)
   | (with_reducible exact ih1 _ _ _ _)
   | (with_reducible exact ih2 _ _)
   | (with_reducible exact power_Of_int.mono _ _)
   | (with_reducible exact LeO.refl _)
   | (with_reducible exact LeO.none _)
   | (with_reducible refine LeO.ite ?_ ?_)
   | (with_reducible refine LeO.bind ?_ (fun _ => ?_))
   | exact ih0 _ _ _ _
   | exact ih1 _ _ _ _
   | exact ih2 _ _
   | exact power_Of_int.mono _ _
   | exact LeO.none _
   | refine LeO.ite ?_ ?_
   | refine LeO.bind ?_ (fun _ => ?_)
set_option maxHeartbeats 8000000 in
set_option maxRecDepth 100000 in
theorem power_needs.calls (k : Nat) (a0 : Int) (r : Int) (w : World) (h : power_needs.f k a0 = some r) :
  Calls Try.prog 47 #[.int .i64 a0] w fun e w' => e = .returned (.int .u32 r) ∧ Below w.heap.size w w' := by
 have HB := Aside0.mk (Below.refl w.heap.size w)
 have H : ((power_Of_int.f k (([1, 2] : List Int))).bind fun t186 => (if a0 = 6 then (power_needs.j0 k a0 t186 a0 (a0 == 6)) else (power_needs.j0 k a0 t186 a0 (a0 == 9)))) = some r := h
 clear h
 obtain ⟨y183, hy183⟩ : ∃ y_ : List Int, y_ = (([1, 2] : List Int)) := ⟨_, rfl⟩
 replace H : ((power_Of_int.f k y183).bind fun t186 => (if a0 = 6 then (power_needs.j0 k a0 t186 a0 (a0 == 6)) else (power_needs.j0 k a0 t186 a0 (a0 == 9)))) = some r := by first | (rw [hy183]; with_reducible exact H) | (have H2_ := (Option.bind_some _ _).symm.trans H; rw [hy183]; with_reducible exact H2_) | (have H2_ := (Option.bind_some _ _).symm.trans H; with_reducible exact H2_) | with_reducible exact H | (rw [hy183]; exact H) | exact H
 have Ny183 := Aside0.mk hy183
 clear hy183
 replace H := Option.bind_eq_some_iff.mp H
 obtain ⟨t186, A20, H⟩ := H
 replace H : (if a0 = 6 then (power_needs.j0 k a0 t186 a0 (a0 == 6)) else (power_needs.j0 k a0 t186 a0 (a0 == 9))) = some r := H
 have A2 := Aside0.mk A20
 clear A20
 have HC3 := Aside0.mk H
 clear H
 go_enter Try.func47, Try.ntmps47
 go_upto_if 7 with (first | ((with_reducible refine gate_dst (N := 4) rfl ?_); refine Kd.R_lit (Kd.int .i64) _ 3 ?hg (N := 4) ?hd (xs := ([1, 2] : List Int)) (inner := [.int .i64 1, .int .i64 2]) (ok := fun _ => True) (okp := fun _ => True) ?hr ?hp (fun _ hk => hk) trivial (Below.refl _ _) (Nat.le_refl _) (by simp) ?_; (case hd => rfl); (case hg => rfl); (case hr => first | (go_simp; done) | (go_simp; rfl)); (case hp => exact (Reps.one (show Kd.M (Kd.int .i64) _ _ _ 1 [.int .i64 1] from rfl) (Reps.one (show Kd.M (Kd.int .i64) _ _ _ 2 [.int .i64 2] from rfl) (Reps.none _ _)))); intro v184 w4 ho5 hb hg_ hnew_; clear hg_ hnew_; (first | rw [← Ny183.out] at ho5 | (simp only [Int.reduceToNat] at ho5; rw [← Ny183.out] at ho5)); have HO185 := Aside0.mk (Kd.R_lower ho5 (below_size (Sq.w HB.out))); replace HB := Sq.sw HB hb; clear hb ho5; obtain ⟨Ao6, co6, eo6⟩ := Kd.R_slice HO185.out; subst eo6) | ((with_reducible refine gate_callee (f := 55) rfl ?_); refine goesL_ (some 5) rfl rfl Try.func55 (by kernel_rfl) rfl #[.slice Ao6 y183.length co6] rfl Sq.m ?_; (with_reducible refine (power_Of_int.calls k _ _ y183 t186 _ ?side1 ?side2 A2.out).mono ?_); (case side1 => repeat (first | exact (Kd.R_reads' HO185.out).2.2 | (with_reducible refine Kd.C_alloc ?_ _) | (with_reducible refine Kd.C_drewN ?_ _) | (with_reducible refine Kd.C_drew ?_))); (case side2 => exact (Kd.R_reads' HO185.out).2.1); rintro e w' ⟨rfl, ⟨nd, rfl⟩⟩; refine ⟨_, rfl, ?_⟩))
 (try simp only [Act.put, List.setIfInBounds_toArray, List.set_cons_zero, List.set_cons_succ])
 refine Cu.wp_cut (Cu.rep 4 Cu.f (Cu.rep 2 Cu.t (Cu.rep 1 Cu.f (Cu.rep 7 Cu.t (Cu.rep 1 Cu.f (Cu.rep 4 Cu.t (Cu.rep 1 Cu.f (Cu.rep 3 Cu.t (Cu.rep 1 Cu.f (Cu.rep 9 Cu.t [])))))))))) 25 (fun us_ wc => ∃ (kq : Nat) (x7_2 : Bool), (Cu.nth us_ 2) = .bool x7_2 ∧ Aside0 (power_needs.j0 kq a0 t186 a0 x7_2 = some r) ∧ Aside0 (kq ≤ k) ∧ Aside0 (Below w.heap.size w wc)) ?_ ?_
 ·
  intro _ _ _ _
  have H := HC3.out
  clear HC3
  by_cases c7 : a0 = 6
  ·rw [if_pos c7] at H
   have c7b0 : (a0 == 6) = true := beq_iff_eq.mpr c7
   have c7b1 : (a0 != 6) = false := bne_eq_false_iff_eq.mpr c7
   clear c7
   (first | rw [c7b0] | (simp only [i64_w, i32_w]; rw [c7b0]) | skip)
   have H' := Aside0.mk H
   clear H
   go_wp2
   refine Cu.meet (by assumption) ?_ (by kernel_rfl) (by kernel_rfl)
   try dsimp only [Cu.pick, Cu.rep, Cu.nth]
   exact ⟨_, ((a0 == 6)), Sq.e, H', ⟨by first | omega | exact Nat.le_refl _⟩, ⟨Sq.w HB.out⟩⟩
  ·rw [if_neg c7] at H
   have c7b0 : (a0 == 6) = false := beq_eq_false_iff_ne.mpr c7
   have c7b1 : (a0 != 6) = true := bne_iff_ne.mpr c7
   (first | rw [c7b0] | (simp only [i64_w, i32_w]; rw [c7b0]) | skip)
   have H' := Aside0.mk H
   clear H
   go_wp2
   refine Cu.meet (by assumption) ?_ (by kernel_rfl) (by kernel_rfl)
   try dsimp only [Cu.pick, Cu.rep, Cu.nth]
   exact ⟨_, ((a0 == 9)), Sq.e, H', ⟨by first | omega | exact Nat.le_refl _⟩, ⟨Sq.w HB.out⟩⟩
 ·
  intro wc u4 u5 u7 u8 u9 u10 u11 u12 u13 u15 u16 u17 u18 u20 u21 u22 u24 u25 u26 u27 u28 u29 u30 u31 u32
  try dsimp only [Cu.over, Cu.rep, Cu.nth]
  intro hcut
  clear HC3
  obtain ⟨kq, x7_2, rfl, HA, HJ2, HB⟩ := hcut
  cases kq with
  | zero => exact absurd HA.out (by simp [power_needs.j0])
  | succ kj2 =>
   have H := HA.out
   clear HA
   simp only [power_needs.j0] at H
   by_cases c8 : x7_2 = true
   ·subst c8
    have H1 : ((power_Of_int.f kj2 (([3] : List Int))).bind fun t190 => (some (Go.bits .or .u32 t186 t190))) = some r := by rw [if_pos rfl] at H; exact H
    clear H
    have H := H1
    clear H1
    obtain ⟨y187, hy187⟩ : ∃ y_ : List Int, y_ = (([3] : List Int)) := ⟨_, rfl⟩
    replace H : ((power_Of_int.f kj2 y187).bind fun t190 => (some (Go.bits .or .u32 t186 t190))) = some r := by first | (rw [hy187]; with_reducible exact H) | (have H2_ := (Option.bind_some _ _).symm.trans H; rw [hy187]; with_reducible exact H2_) | (have H2_ := (Option.bind_some _ _).symm.trans H; with_reducible exact H2_) | with_reducible exact H | (rw [hy187]; exact H) | exact H
    have Ny187 := Aside0.mk hy187
    clear hy187
    replace H := Option.bind_eq_some_iff.mp H
    obtain ⟨t190, A90, H⟩ := H
    replace H : (some (Go.bits .or .u32 t186 t190)) = some r := H
    have A9 := Aside0.mk A90
    clear A90
    obtain rfl := Option.some.inj H
    go_wp2_with (first | ((with_reducible refine gate_dst (N := 11) rfl ?_); refine Kd.R_lit (Kd.int .i64) _ 3 ?hg (N := 11) ?hd (xs := ([3] : List Int)) (inner := [.int .i64 3]) (ok := fun _ => True) (okp := fun _ => True) ?hr ?hp (fun _ hk => hk) trivial (Below.refl _ _) (Nat.le_refl _) (by simp) ?_; (case hd => rfl); (case hg => rfl); (case hr => first | (go_simp; done) | (go_simp; rfl)); (case hp => exact (Reps.one (show Kd.M (Kd.int .i64) _ _ _ 3 [.int .i64 3] from rfl) (Reps.none _ _))); intro v188 w10 ho11 hb hg_ hnew_; clear hg_ hnew_; (first | rw [← Ny187.out] at ho11 | (simp only [Int.reduceToNat] at ho11; rw [← Ny187.out] at ho11)); have HO189 := Aside0.mk (Kd.R_lower ho11 (below_size (Sq.w HB.out))); replace HB := Sq.sw HB hb; clear hb ho11; obtain ⟨Ao12, co12, eo12⟩ := Kd.R_slice HO189.out; subst eo12) | ((with_reducible refine gate_callee (f := 55) rfl ?_); refine goesL_ (some 12) rfl rfl Try.func55 (by kernel_rfl) rfl #[.slice Ao12 y187.length co12] rfl Sq.m ?_; (with_reducible refine (power_Of_int.calls kj2 _ _ y187 t190 _ ?side1 ?side2 A9.out).mono ?_); (case side1 => repeat (first | exact (Kd.R_reads' HO189.out).2.2 | (with_reducible refine Kd.C_alloc ?_ _) | (with_reducible refine Kd.C_drewN ?_ _) | (with_reducible refine Kd.C_drew ?_))); (case side2 => exact (Kd.R_reads' HO189.out).2.1); rintro e w' ⟨rfl, ⟨nd, rfl⟩⟩; refine ⟨_, rfl, ?_⟩))
    go_ret
    exact ⟨by first | rfl | (simp [errW_none, errW_some] <;> rfl) | (simp [*, errW_none, errW_some] <;> rfl), Sq.w HB.out⟩
   ·replace c8 := Bool.eq_false_iff.mpr c8
    subst c8
    have H1 : (if a0 = 7 then (power_needs.j1 kj2 a0 t186 a0 (a0 == 7)) else (if a0 = 8 then (power_needs.j1 kj2 a0 t186 a0 (a0 == 8)) else (power_needs.j1 kj2 a0 t186 a0 (a0 == 14)))) = some r := by rw [if_neg (show ¬ (false = true) by decide)] at H; exact H
    clear H
    have H := H1
    clear H1
    have HC13 := Aside0.mk H
    clear H
    go_upto_if 14 with (fail)
    refine Cu.wp_cut (Cu.rep 4 Cu.f (Cu.rep 2 Cu.t (Cu.rep 2 Cu.f (Cu.rep 11 Cu.t (Cu.rep 1 Cu.f (Cu.rep 3 Cu.t (Cu.rep 1 Cu.f (Cu.rep 9 Cu.t [])))))))) 25 (fun us_ wc => ∃ (kq : Nat) (x14_12 : Bool), (Cu.nth us_ 8) = .bool x14_12 ∧ Aside0 (power_needs.j1 kq a0 t186 a0 x14_12 = some r) ∧ Aside0 (kq ≤ kj2) ∧ Aside0 (Below w.heap.size w wc)) ?_ ?_
    ·
     intro _ _ _ _
     have H := HC13.out
     clear HC13
     by_cases c14 : a0 = 7
     ·rw [if_pos c14] at H
      have c14b0 : (a0 == 7) = true := beq_iff_eq.mpr c14
      have c14b1 : (a0 != 7) = false := bne_eq_false_iff_eq.mpr c14
      clear c14
      (first | rw [c14b0] | (simp only [i64_w, i32_w]; rw [c14b0]) | skip)
      have H' := Aside0.mk H
      clear H
      go_wp2
      refine Cu.meet (by assumption) ?_ (by kernel_rfl) (by kernel_rfl)
      try dsimp only [Cu.pick, Cu.rep, Cu.nth]
      exact ⟨_, ((a0 == 7)), Sq.e, H', ⟨by have := HJ2.out; first | omega | exact Nat.le_refl _⟩, ⟨Sq.w HB.out⟩⟩
     ·rw [if_neg c14] at H
      have c14b0 : (a0 == 7) = false := beq_eq_false_iff_ne.mpr c14
      have c14b1 : (a0 != 7) = true := bne_iff_ne.mpr c14
      (first | rw [c14b0] | (simp only [i64_w, i32_w]; rw [c14b0]) | skip)
      by_cases c15 : a0 = 8
      ·rw [if_pos c15] at H
       have c15b0 : (a0 == 8) = true := beq_iff_eq.mpr c15
       have c15b1 : (a0 != 8) = false := bne_eq_false_iff_eq.mpr c15
       clear c15
       have H' := Aside0.mk H
       clear H
       go_wp2
       refine Cu.meet (by assumption) ?_ (by kernel_rfl) (by kernel_rfl)
       try dsimp only [Cu.pick, Cu.rep, Cu.nth]
       exact ⟨_, ((a0 == 8)), Sq.e, H', ⟨by have := HJ2.out; first | omega | exact Nat.le_refl _⟩, ⟨Sq.w HB.out⟩⟩
      ·rw [if_neg c15] at H
       have c15b0 : (a0 == 8) = false := beq_eq_false_iff_ne.mpr c15
       have c15b1 : (a0 != 8) = true := bne_iff_ne.mpr c15
       have H' := Aside0.mk H
       clear H
       go_wp2
       refine Cu.meet (by assumption) ?_ (by kernel_rfl) (by kernel_rfl)
       try dsimp only [Cu.pick, Cu.rep, Cu.nth]
       exact ⟨_, ((a0 == 14)), Sq.e, H', ⟨by have := HJ2.out; first | omega | exact Nat.le_refl _⟩, ⟨Sq.w HB.out⟩⟩
    ·
     intro wc u4 u5 u8 u9 u10 u11 u12 u13 u14 u15 u16 u17 u18 u20 u21 u22 u24 u25 u26 u27 u28 u29 u30 u31 u32
     try dsimp only [Cu.over, Cu.rep, Cu.nth]
     intro hcut
     clear HC13; (try clear c8)
     obtain ⟨kq, x14_12, rfl, HA, HJ12, HB⟩ := hcut
     cases kq with
     | zero => exact absurd HA.out (by simp [power_needs.j1])
     | succ kj12 =>
      have H := HA.out
      clear HA
      simp only [power_needs.j1] at H
      by_cases c16 : x14_12 = true
      ·subst c16
       have H1 : (some t186) = some r := by rw [if_pos rfl] at H; exact H
       clear H
       have H := H1
       clear H1
       obtain rfl := Option.some.inj H
       go_wp2
       go_ret
       exact ⟨by first | rfl | (simp [errW_none, errW_some] <;> rfl) | (simp [*, errW_none, errW_some] <;> rfl), Sq.w HB.out⟩
      ·replace c16 := Bool.eq_false_iff.mpr c16
       subst c16
       have H1 : (if a0 = 10 then ((power_Of_int.f kj12 (([4] : List Int))).bind fun t194 => (some t194)) else (if a0 = 11 then (power_needs.j2 kj12 a0 (a0 == 11)) else (if a0 = 12 then (power_needs.j2 kj12 a0 (a0 == 12)) else (if a0 = 13 then (power_needs.j2 kj12 a0 (a0 == 13)) else (power_needs.j2 kj12 a0 (a0 == 15)))))) = some r := by rw [if_neg (show ¬ (false = true) by decide)] at H; exact H
       clear H
       have H := H1
       clear H1
       by_cases c17 : a0 = 10
       ·rw [if_pos c17] at H
        have c17b0 : (a0 == 10) = true := beq_iff_eq.mpr c17
        have c17b1 : (a0 != 10) = false := bne_eq_false_iff_eq.mpr c17
        clear c17
        obtain ⟨y191, hy191⟩ : ∃ y_ : List Int, y_ = (([4] : List Int)) := ⟨_, rfl⟩
        replace H : ((power_Of_int.f kj12 y191).bind fun t194 => (some t194)) = some r := by first | (rw [hy191]; with_reducible exact H) | (have H2_ := (Option.bind_some _ _).symm.trans H; rw [hy191]; with_reducible exact H2_) | (have H2_ := (Option.bind_some _ _).symm.trans H; with_reducible exact H2_) | with_reducible exact H | (rw [hy191]; exact H) | exact H
        have Ny191 := Aside0.mk hy191
        clear hy191
        replace H := Option.bind_eq_some_iff.mp H
        obtain ⟨t194, A180, H⟩ := H
        replace H : (some t194) = some r := H
        have A18 := Aside0.mk A180
        clear A180
        obtain rfl := Option.some.inj H
        go_wp2_with (first | ((with_reducible refine gate_dst (N := 21) rfl ?_); refine Kd.R_lit (Kd.int .i64) _ 3 ?hg (N := 21) ?hd (xs := ([4] : List Int)) (inner := [.int .i64 4]) (ok := fun _ => True) (okp := fun _ => True) ?hr ?hp (fun _ hk => hk) trivial (Below.refl _ _) (Nat.le_refl _) (by simp) ?_; (case hd => rfl); (case hg => rfl); (case hr => first | (go_simp; done) | (go_simp; rfl)); (case hp => exact (Reps.one (show Kd.M (Kd.int .i64) _ _ _ 4 [.int .i64 4] from rfl) (Reps.none _ _))); intro v192 w19 ho20 hb hg_ hnew_; clear hg_ hnew_; (first | rw [← Ny191.out] at ho20 | (simp only [Int.reduceToNat] at ho20; rw [← Ny191.out] at ho20)); have HO193 := Aside0.mk (Kd.R_lower ho20 (below_size (Sq.w HB.out))); replace HB := Sq.sw HB hb; clear hb ho20; obtain ⟨Ao21, co21, eo21⟩ := Kd.R_slice HO193.out; subst eo21) | ((with_reducible refine gate_callee (f := 55) rfl ?_); refine goesL_ (some 22) rfl rfl Try.func55 (by kernel_rfl) rfl #[.slice Ao21 y191.length co21] rfl Sq.m ?_; (with_reducible refine (power_Of_int.calls kj12 _ _ y191 t194 _ ?side1 ?side2 A18.out).mono ?_); (case side1 => repeat (first | exact (Kd.R_reads' HO193.out).2.2 | (with_reducible refine Kd.C_alloc ?_ _) | (with_reducible refine Kd.C_drewN ?_ _) | (with_reducible refine Kd.C_drew ?_))); (case side2 => exact (Kd.R_reads' HO193.out).2.1); rintro e w' ⟨rfl, ⟨nd, rfl⟩⟩; refine ⟨_, rfl, ?_⟩))
        go_ret
        exact ⟨by first | rfl | (simp [errW_none, errW_some] <;> rfl) | (simp [*, errW_none, errW_some] <;> rfl), Sq.w HB.out⟩
       ·rw [if_neg c17] at H
        have c17b0 : (a0 == 10) = false := beq_eq_false_iff_ne.mpr c17
        have c17b1 : (a0 != 10) = true := bne_iff_ne.mpr c17
        have HC22 := Aside0.mk H
        clear H
        go_upto_if 23 with (fail)
        refine Cu.wp_cut (Cu.rep 4 Cu.f (Cu.rep 2 Cu.t (Cu.rep 2 Cu.f (Cu.rep 6 Cu.t (Cu.rep 1 Cu.f (Cu.rep 4 Cu.t (Cu.rep 1 Cu.f (Cu.rep 13 Cu.t [])))))))) 25 (fun us_ wc => ∃ (kq : Nat) (x23_21 : Bool), (Cu.nth us_ 15) = .bool x23_21 ∧ Aside0 (power_needs.j2 kq a0 x23_21 = some r) ∧ Aside0 (kq ≤ kj12) ∧ Aside0 (Below w.heap.size w wc)) ?_ ?_
        ·
         intro _ _ _ _
         have H := HC22.out
         clear HC22
         by_cases c23 : a0 = 11
         ·rw [if_pos c23] at H
          have c23b0 : (a0 == 11) = true := beq_iff_eq.mpr c23
          have c23b1 : (a0 != 11) = false := bne_eq_false_iff_eq.mpr c23
          clear c23
          (first | rw [c23b0] | (simp only [i64_w, i32_w]; rw [c23b0]) | skip)
          have H' := Aside0.mk H
          clear H
          go_wp2
          refine Cu.meet (by assumption) ?_ (by kernel_rfl) (by kernel_rfl)
          try dsimp only [Cu.pick, Cu.rep, Cu.nth]
          exact ⟨_, ((a0 == 11)), Sq.e, H', ⟨by have := HJ2.out; have := HJ12.out; first | omega | exact Nat.le_refl _⟩, ⟨Sq.w HB.out⟩⟩
         ·rw [if_neg c23] at H
          have c23b0 : (a0 == 11) = false := beq_eq_false_iff_ne.mpr c23
          have c23b1 : (a0 != 11) = true := bne_iff_ne.mpr c23
          (first | rw [c23b0] | (simp only [i64_w, i32_w]; rw [c23b0]) | skip)
          by_cases c24 : a0 = 12
          ·rw [if_pos c24] at H
           have c24b0 : (a0 == 12) = true := beq_iff_eq.mpr c24
           have c24b1 : (a0 != 12) = false := bne_eq_false_iff_eq.mpr c24
           clear c24
           have H' := Aside0.mk H
           clear H
           go_wp2
           refine Cu.meet (by assumption) ?_ (by kernel_rfl) (by kernel_rfl)
           try dsimp only [Cu.pick, Cu.rep, Cu.nth]
           exact ⟨_, ((a0 == 12)), Sq.e, H', ⟨by have := HJ2.out; have := HJ12.out; first | omega | exact Nat.le_refl _⟩, ⟨Sq.w HB.out⟩⟩
          ·rw [if_neg c24] at H
           have c24b0 : (a0 == 12) = false := beq_eq_false_iff_ne.mpr c24
           have c24b1 : (a0 != 12) = true := bne_iff_ne.mpr c24
           by_cases c25 : a0 = 13
           ·rw [if_pos c25] at H
            have c25b0 : (a0 == 13) = true := beq_iff_eq.mpr c25
            have c25b1 : (a0 != 13) = false := bne_eq_false_iff_eq.mpr c25
            clear c25
            have H' := Aside0.mk H
            clear H
            go_wp2
            refine Cu.meet (by assumption) ?_ (by kernel_rfl) (by kernel_rfl)
            try dsimp only [Cu.pick, Cu.rep, Cu.nth]
            exact ⟨_, ((a0 == 13)), Sq.e, H', ⟨by have := HJ2.out; have := HJ12.out; first | omega | exact Nat.le_refl _⟩, ⟨Sq.w HB.out⟩⟩
           ·rw [if_neg c25] at H
            have c25b0 : (a0 == 13) = false := beq_eq_false_iff_ne.mpr c25
            have c25b1 : (a0 != 13) = true := bne_iff_ne.mpr c25
            have H' := Aside0.mk H
            clear H
            go_wp2
            refine Cu.meet (by assumption) ?_ (by kernel_rfl) (by kernel_rfl)
            try dsimp only [Cu.pick, Cu.rep, Cu.nth]
            exact ⟨_, ((a0 == 15)), Sq.e, H', ⟨by have := HJ2.out; have := HJ12.out; first | omega | exact Nat.le_refl _⟩, ⟨Sq.w HB.out⟩⟩
        ·
         intro wc u4 u5 u8 u9 u10 u11 u12 u13 u15 u16 u17 u18 u20 u21 u22 u23 u24 u25 u26 u27 u28 u29 u30 u31 u32
         try dsimp only [Cu.over, Cu.rep, Cu.nth]
         intro hcut
         clear HC22; (try clear c16); (try clear c17); (try clear c17b0); (try clear c17b1)
         obtain ⟨kq, x23_21, rfl, HA, HJ21, HB⟩ := hcut
         cases kq with
         | zero => exact absurd HA.out (by simp [power_needs.j2])
         | succ kj21 =>
          have H := HA.out
          clear HA
          simp only [power_needs.j2] at H
          by_cases c26 : x23_21 = true
          ·subst c26
           have H1 : ((power_Of_int.f kj21 (([1] : List Int))).bind fun t198 => (some t198)) = some r := by rw [if_pos rfl] at H; exact H
           clear H
           have H := H1
           clear H1
           obtain ⟨y195, hy195⟩ : ∃ y_ : List Int, y_ = (([1] : List Int)) := ⟨_, rfl⟩
           replace H : ((power_Of_int.f kj21 y195).bind fun t198 => (some t198)) = some r := by first | (rw [hy195]; with_reducible exact H) | (have H2_ := (Option.bind_some _ _).symm.trans H; rw [hy195]; with_reducible exact H2_) | (have H2_ := (Option.bind_some _ _).symm.trans H; with_reducible exact H2_) | with_reducible exact H | (rw [hy195]; exact H) | exact H
           have Ny195 := Aside0.mk hy195
           clear hy195
           replace H := Option.bind_eq_some_iff.mp H
           obtain ⟨t198, A270, H⟩ := H
           replace H : (some t198) = some r := H
           have A27 := Aside0.mk A270
           clear A270
           obtain rfl := Option.some.inj H
           go_wp2_with (first | ((with_reducible refine gate_dst (N := 28) rfl ?_); refine Kd.R_lit (Kd.int .i64) _ 3 ?hg (N := 28) ?hd (xs := ([1] : List Int)) (inner := [.int .i64 1]) (ok := fun _ => True) (okp := fun _ => True) ?hr ?hp (fun _ hk => hk) trivial (Below.refl _ _) (Nat.le_refl _) (by simp) ?_; (case hd => rfl); (case hg => rfl); (case hr => first | (go_simp; done) | (go_simp; rfl)); (case hp => exact (Reps.one (show Kd.M (Kd.int .i64) _ _ _ 1 [.int .i64 1] from rfl) (Reps.none _ _))); intro v196 w28 ho29 hb hg_ hnew_; clear hg_ hnew_; (first | rw [← Ny195.out] at ho29 | (simp only [Int.reduceToNat] at ho29; rw [← Ny195.out] at ho29)); have HO197 := Aside0.mk (Kd.R_lower ho29 (below_size (Sq.w HB.out))); replace HB := Sq.sw HB hb; clear hb ho29; obtain ⟨Ao30, co30, eo30⟩ := Kd.R_slice HO197.out; subst eo30) | ((with_reducible refine gate_callee (f := 55) rfl ?_); refine goesL_ (some 29) rfl rfl Try.func55 (by kernel_rfl) rfl #[.slice Ao30 y195.length co30] rfl Sq.m ?_; (with_reducible refine (power_Of_int.calls kj21 _ _ y195 t198 _ ?side1 ?side2 A27.out).mono ?_); (case side1 => repeat (first | exact (Kd.R_reads' HO197.out).2.2 | (with_reducible refine Kd.C_alloc ?_ _) | (with_reducible refine Kd.C_drewN ?_ _) | (with_reducible refine Kd.C_drew ?_))); (case side2 => exact (Kd.R_reads' HO197.out).2.1); rintro e w' ⟨rfl, ⟨nd, rfl⟩⟩; refine ⟨_, rfl, ?_⟩))
           go_ret
           exact ⟨by first | rfl | (simp [errW_none, errW_some] <;> rfl) | (simp [*, errW_none, errW_some] <;> rfl), Sq.w HB.out⟩
          ·replace c26 := Bool.eq_false_iff.mpr c26
           subst c26
           have H1 : ((power_Of_int.f kj21 (([a0] : List Int))).bind fun t202 => (some t202)) = some r := by rw [if_neg (show ¬ (false = true) by decide)] at H; exact H
           clear H
           have H := H1
           clear H1
           obtain ⟨y199, hy199⟩ : ∃ y_ : List Int, y_ = (([a0] : List Int)) := ⟨_, rfl⟩
           replace H : ((power_Of_int.f kj21 y199).bind fun t202 => (some t202)) = some r := by first | (rw [hy199]; with_reducible exact H) | (have H2_ := (Option.bind_some _ _).symm.trans H; rw [hy199]; with_reducible exact H2_) | (have H2_ := (Option.bind_some _ _).symm.trans H; with_reducible exact H2_) | with_reducible exact H | (rw [hy199]; exact H) | exact H
           have Ny199 := Aside0.mk hy199
           clear hy199
           replace H := Option.bind_eq_some_iff.mp H
           obtain ⟨t202, A310, H⟩ := H
           replace H : (some t202) = some r := H
           have A31 := Aside0.mk A310
           clear A310
           obtain rfl := Option.some.inj H
           go_wp2_with (first | ((with_reducible refine gate_dst (N := 31) rfl ?_); refine Kd.R_lit (Kd.int .i64) _ 3 ?hg (N := 31) ?hd (xs := ([a0] : List Int)) (inner := [.int .i64 a0]) (ok := fun _ => True) (okp := fun _ => True) ?hr ?hp (fun _ hk => hk) trivial (Below.refl _ _) (Nat.le_refl _) (by simp) ?_; (case hd => rfl); (case hg => rfl); (case hr => first | (go_simp; done) | (go_simp; rfl)); (case hp => exact (Reps.one (show Kd.M (Kd.int .i64) _ _ _ a0 [.int .i64 a0] from rfl) (Reps.none _ _))); intro v200 w32 ho33 hb hg_ hnew_; clear hg_ hnew_; (first | rw [← Ny199.out] at ho33 | (simp only [Int.reduceToNat] at ho33; rw [← Ny199.out] at ho33)); have HO201 := Aside0.mk (Kd.R_lower ho33 (below_size (Sq.w HB.out))); replace HB := Sq.sw HB hb; clear hb ho33; obtain ⟨Ao34, co34, eo34⟩ := Kd.R_slice HO201.out; subst eo34) | ((with_reducible refine gate_callee (f := 55) rfl ?_); refine goesL_ (some 32) rfl rfl Try.func55 (by kernel_rfl) rfl #[.slice Ao34 y199.length co34] rfl Sq.m ?_; (with_reducible refine (power_Of_int.calls kj21 _ _ y199 t202 _ ?side1 ?side2 A31.out).mono ?_); (case side1 => repeat (first | exact (Kd.R_reads' HO201.out).2.2 | (with_reducible refine Kd.C_alloc ?_ _) | (with_reducible refine Kd.C_drewN ?_ _) | (with_reducible refine Kd.C_drew ?_))); (case side2 => exact (Kd.R_reads' HO201.out).2.1); rintro e w' ⟨rfl, ⟨nd, rfl⟩⟩; refine ⟨_, rfl, ?_⟩))
           go_ret
           exact ⟨by first | rfl | (simp [errW_none, errW_some] <;> rfl) | (simp [*, errW_none, errW_some] <;> rfl), Sq.w HB.out⟩

/-! ### power_Set_int_Has: function 48 -/
def power_Set_int_Has.f (a0 : Int) (a1 : Int) : Option (Bool) := if 0 ≤ a1 then (some ((Go.bits .and .u32 (shr .u32 a0 a1) 1) == 1)) else (none)
set_option maxHeartbeats 8000000 in
set_option maxRecDepth 100000 in
theorem power_Set_int_Has.calls (a0 : Int) (a1 : Int) (r : Bool) (w : World) (h : power_Set_int_Has.f a0 a1 = some r) :
  Calls Try.prog 48 #[.int .u32 a0, .int .i64 a1] w fun e w' => e = .returned (.bool r) ∧ Drawn0 w w' := by
 have H : (if 0 ≤ a1 then (some ((Go.bits .and .u32 (shr .u32 a0 a1) 1) == 1)) else (none)) = some r := h
 clear h
 by_cases c3 : 0 ≤ a1
 ·rw [if_pos c3] at H
  have c3b0 := eq_true c3
  have c3b1 : decide (0 ≤ a1) = true := decide_eq_true c3
  clear c3
  obtain ⟨ji4, hji4⟩ : ∃ j_ : Int, (shr .u32 a0 a1) = j_ := ⟨_, rfl⟩
  replace H : (some ((Go.bits .and .u32 (ji4) 1) == 1)) = some r := by first | (rw [hji4] at H; exact H) | (simp only [hji4] at H ⊢; exact H)
  have hji4_ : (a0 / 2 ^ min a1.toNat 32) = ji4 := hji4
  have hji4z : a1 ≤ 32 → (a0 / 2 ^ a1.toNat) = ji4 := shr_small hji4
  obtain rfl := Option.some.inj H
  go_enter Try.func48, Try.ntmps48
  go_wp2
  go_ret
  exact ⟨by first | rfl | (simp; done) | (simp only [← hji4] <;> (first | rfl | simp)) | (simp [*]; done), by repeat (first | exact Drawn0.refl _ | apply Drawn0.step)⟩
 ·rw [if_neg c3] at H
  exact absurd H (by simp)

end Go.Proofs.Ytfdfnmlbmijdjaa.PRateExact
