import Derived.Test.YtnlmbejkemkkoaaCut
import Derived.Test.YtnlmbejkemkkoaaPDrvExactx0
import Derived.Test.YtnlmbejkemkkoaaPDrvExactx2
namespace Go.Proofs.Ytnlmbejkemkkoaa.PDrvExact
open Go.RowKit Go.Proofs.YtnlmbejkemkkoaaW.PrintWords Go.Proofs.YtnlmbejkemkkoaaW.PrintLast Go.Proofs.YtnlmbejkemkkoaaW.PrintMore
attribute [local go_sem] max2_int min2_int max_two min_two max_three min_three max_four min_four   -- for this text's walks alone
set_option linter.unusedVariables false
set_option linter.unusedSimpArgs false

attribute [local go_sem high] eqA55
/-! ### gimbalref0_EqRaws: function 21 -/
def gimbalref0_EqRaws.l0 : Nat → List (S55) → List (S55) → Int → Option (Bool)
 | 0, _, _, _ => none
 | k + 1, x0, x1, x5 => if x5 < (x0.length : Int) then (if 0 ≤ x5 then (if x5 < (x1.length : Int) then (if (!(((rd_T55 x0 x5).f0) == ((rd_T55 x1 x5).f0)) || (!(((rd_T55 x0 x5).f1) == ((rd_T55 x1 x5).f1)) || (!(((rd_T55 x0 x5).f2) == ((rd_T55 x1 x5).f2)) || (!(((rd_T55 x0 x5).f3) == ((rd_T55 x1 x5).f3)))))) = true then (some false) else (gimbalref0_EqRaws.l0 k x0 x1 (wrap64 (x5 + 1)))) else (none)) else (none)) else (some true)
def gimbalref0_EqRaws.f (k : Nat) (l0 : List (S55)) (l1 : List (S55)) : Option (Bool) := if (l0.length : Int) = (l1.length : Int) then (gimbalref0_EqRaws.l0 k l0 l1 0) else (some false)
theorem gimbalref0_EqRaws.mono_l : ∀ k, (∀ y0 y1 y2, LeO (gimbalref0_EqRaws.l0 k y0 y1 y2) (gimbalref0_EqRaws.l0 (k + 1) y0 y1 y2))
 | 0 => fun _ _ _ r h => by simp [gimbalref0_EqRaws.l0] at h
 | k + 1 => by
  have ih0 := gimbalref0_EqRaws.mono_l k
  ·intro y0 y1 y2
   unfold gimbalref0_EqRaws.l0
   repeat' first
   | (with_reducible exact ih0 _ _ _)
   | (with_reducible exact LeO.refl _)
   | (with_reducible exact LeO.none _)
   | (with_reducible refine LeO.ite ?_ ?_)
   | (with_reducible refine LeO.bind ?_ (fun _ => ?_))
   | exact ih0 _ _ _
   | exact LeO.none _
   | refine LeO.ite ?_ ?_
   | refine LeO.bind ?_ (fun _ => ?_)
theorem gimbalref0_EqRaws.mono : ∀ a0 a1 k, LeO (gimbalref0_EqRaws.f k a0 a1) (gimbalref0_EqRaws.f (k + 1) a0 a1) := by
 intro a0 a1 k
 have ih0 := gimbalref0_EqRaws.mono_l k
 unfold gimbalref0_EqRaws.f
 repeat' first
   | (with_reducible exact ih0 _ _ _)
   | (with_reducible exact LeO.refl _)
   | (with_reducible exact LeO.none _)
   | (with_reducible refine LeO.ite ?_ ?_)
   | (with_reducible refine LeO.bind ?_ (fun _ => ?_))
   | exact ih0 _ _ _
   | exact LeO.none _
   | refine LeO.ite ?_ ?_
   | refine LeO.bind ?_ (fun _ => ?_)
set_option maxHeartbeats 8000000 in
set_option maxRecDepth 100000 in
theorem gimbalref0_EqRaws.calls (k : Nat) (A0 : Option Addr) (c0 : Nat) (l0 : List (S55)) (A1 : Option Addr) (c1 : Nat) (l1 : List (S55)) (r : Bool) (w : World) (hr0 : Kd.C k55 w A0 l0.length l0) (hc0 : l0.length ≤ c0) (hr1 : Kd.C k55 w A1 l1.length l1) (hc1 : l1.length ≤ c1) (h : gimbalref0_EqRaws.f k l0 l1 = some r) :
  Calls Try.prog 21 #[.slice A0 l0.length c0, .slice A1 l1.length c1] w fun e w' => e = .returned (.bool r) ∧ Drawn0 w w' := by
 have hu55 := Try.underlying55
 have HR0 := Aside0.mk hr0
 have HC0 := Aside0.mk hc0
 clear hr0 hc0
 have HR1 := Aside0.mk hr1
 have HC1 := Aside0.mk hc1
 clear hr1 hc1
 have H : (if (l0.length : Int) = (l1.length : Int) then (gimbalref0_EqRaws.l0 k l0 l1 0) else (some false)) = some r := h
 clear h
 by_cases c3 : (l0.length : Int) = (l1.length : Int)
 ·rw [if_pos c3] at H
  have c3b0 : ((l0.length : Int) == (l1.length : Int)) = true := beq_iff_eq.mpr c3
  have c3b1 : ((l0.length : Int) != (l1.length : Int)) = false := bne_eq_false_iff_eq.mpr c3
  have c3b2 : (l0.length == l1.length) = true := by first | simpa using c3 | (simp at c3 ⊢; omega)
  clear c3
  have H' := Aside0.mk H
  clear H
  go_enter Try.func21, Try.ntmps21
  go_wp2
  repeat (go_quiet (fail); try go_wp2)
  refine Cu.wp_loop (Cu.rep 4 Cu.f (Cu.rep 2 Cu.t (Cu.rep 5 Cu.f (Cu.rep 15 Cu.t [])))) 17 (fun kq us_ w' => ∃ (x5_1 : Int), (Cu.nth us_ 1) = .int .i64 x5_1 ∧ Aside0 (gimbalref0_EqRaws.l0 kq l0 l1 x5_1 = some r) ∧ Aside0 (kq ≤ k) ∧ Drawn0 w w') k ?_ (by kernel_rfl) (by kernel_rfl) ?_
  · try dsimp only [Cu.pick, Cu.rep, Cu.nth]
    exact ⟨(0), Sq.e, H', ⟨Nat.le_refl _⟩, by repeat (first | exact Drawn0.refl _ | apply Drawn0.step)⟩
  ·
   intro gk wr u4 u5 u11 u12 u13 u14 u15 u16 u17 u18 u19 u20 u21 u22 u23 u24 u25
   try dsimp only [Cu.over, Cu.rep, Cu.nth]
   intro hrel _ _ _ _
   clear H'; (try clear c3b0); (try clear c3b1); (try clear c3b2)
   obtain ⟨x5_1, rfl, HA, HK1, ⟨m1, rfl⟩⟩ := hrel
   cases gk with
   | zero => exact absurd HA.out (by simp [gimbalref0_EqRaws.l0])
   | succ k1 =>
    have H := HA.out
    clear HA
    simp only [gimbalref0_EqRaws.l0] at H
    by_cases c4 : x5_1 < (l0.length : Int)
    ·rw [if_pos c4] at H
     have c4b0 : decide (x5_1 < (l0.length : Int)) = true := decide_eq_true c4
     clear c4
     by_cases c5 : 0 ≤ x5_1
     ·rw [if_pos c5] at H
      have c5b0 : decide (0 ≤ x5_1) = true := decide_eq_true c5
      clear c5
      by_cases c6 : x5_1 < (l1.length : Int)
      ·rw [if_pos c6] at H
       have c6b0 : decide (x5_1 < (l1.length : Int)) = true := decide_eq_true c6
       clear c6
       by_cases c7 : (!(((rd_T55 l0 x5_1).f0) == ((rd_T55 l1 x5_1).f0)) || (!(((rd_T55 l0 x5_1).f1) == ((rd_T55 l1 x5_1).f1)) || (!(((rd_T55 l0 x5_1).f2) == ((rd_T55 l1 x5_1).f2)) || (!(((rd_T55 l0 x5_1).f3) == ((rd_T55 l1 x5_1).f3)))))) = true
       ·rw [if_pos c7] at H
        have c7b0 : (!(((rd_T55 l0 x5_1).f0) == ((rd_T55 l1 x5_1).f0)) || (!(((rd_T55 l0 x5_1).f1) == ((rd_T55 l1 x5_1).f1)) || (!(((rd_T55 l0 x5_1).f2) == ((rd_T55 l1 x5_1).f2)) || (!(((rd_T55 l0 x5_1).f3) == ((rd_T55 l1 x5_1).f3)))))) = true := c7
        clear c7
        obtain rfl := Option.some.inj H
        have p166 : 0 ≤ (x5_1 : Int) := of_decide_eq_true (by first | (with_reducible assumption) | assumption)
        have q166 : x5_1 < (l0.length : Int) := of_decide_eq_true (by first | (with_reducible assumption) | assumption)
        obtain ⟨ad166, e166, hx166_0, hx166_1, hx166_2, hx166_3⟩ := at_T55 HR0.out x5_1 p166 q166
        cases e166
        replace p166 := eq_true p166
        replace q166 := eq_true q166
        have p167 : 0 ≤ (x5_1 : Int) := of_decide_eq_true (by first | (with_reducible assumption) | assumption)
        have q167 : x5_1 < (l1.length : Int) := of_decide_eq_true (by first | (with_reducible assumption) | assumption)
        obtain ⟨ad167, e167, hx167_0, hx167_1, hx167_2, hx167_3⟩ := at_T55 HR1.out x5_1 p167 q167
        cases e167
        replace p167 := eq_true p167
        replace q167 := eq_true q167
        go_wp2
        repeat (go_quiet (fail); try go_wp2)
        go_ret
        exact ⟨by first | rfl | (simp; done) | (simp [*]; done), by repeat (first | exact Drawn0.refl _ | apply Drawn0.step)⟩
       ·rw [if_neg c7] at H
        have c7b0 : (!(((rd_T55 l0 x5_1).f0) == ((rd_T55 l1 x5_1).f0)) || (!(((rd_T55 l0 x5_1).f1) == ((rd_T55 l1 x5_1).f1)) || (!(((rd_T55 l0 x5_1).f2) == ((rd_T55 l1 x5_1).f2)) || (!(((rd_T55 l0 x5_1).f3) == ((rd_T55 l1 x5_1).f3)))))) = false := by simpa using c7
        clear c7
        have H' := Aside0.mk H
        clear H
        have p166 : 0 ≤ (x5_1 : Int) := of_decide_eq_true (by first | (with_reducible assumption) | assumption)
        have q166 : x5_1 < (l0.length : Int) := of_decide_eq_true (by first | (with_reducible assumption) | assumption)
        obtain ⟨ad166, e166, hx166_0, hx166_1, hx166_2, hx166_3⟩ := at_T55 HR0.out x5_1 p166 q166
        cases e166
        replace p166 := eq_true p166
        replace q166 := eq_true q166
        have p167 : 0 ≤ (x5_1 : Int) := of_decide_eq_true (by first | (with_reducible assumption) | assumption)
        have q167 : x5_1 < (l1.length : Int) := of_decide_eq_true (by first | (with_reducible assumption) | assumption)
        obtain ⟨ad167, e167, hx167_0, hx167_1, hx167_2, hx167_3⟩ := at_T55 HR1.out x5_1 p167 q167
        cases e167
        replace p167 := eq_true p167
        replace q167 := eq_true q167
        go_wp2
        repeat (go_quiet (fail); try go_wp2)
        refine Cu.handed k1 (by have := HK1.out; omega) (by assumption) ?_ (by kernel_rfl) (by kernel_rfl)
        try dsimp only [Cu.pick, Cu.rep, Cu.nth]
        exact ⟨(wrap64 (x5_1 + 1)), Sq.e, H', ⟨by have := HK1.out; omega⟩, by repeat (first | exact Drawn0.refl _ | apply Drawn0.step)⟩
      ·rw [if_neg c6] at H
       exact absurd H (by simp)
     ·rw [if_neg c5] at H
      exact absurd H (by simp)
    ·rw [if_neg c4] at H
     have c4b0 : decide (x5_1 < (l0.length : Int)) = false := decide_eq_false c4
     clear c4
     obtain rfl := Option.some.inj H
     go_wp2
     repeat (go_quiet (fail); try go_wp2)
     go_ret
     exact ⟨by first | rfl | (simp; done) | (simp [*]; done), by repeat (first | exact Drawn0.refl _ | apply Drawn0.step)⟩
 ·rw [if_neg c3] at H
  have c3b0 : ((l0.length : Int) == (l1.length : Int)) = false := beq_eq_false_iff_ne.mpr c3
  have c3b1 : ((l0.length : Int) != (l1.length : Int)) = true := bne_iff_ne.mpr c3
  have c3b2 : (l0.length == l1.length) = false := by first | simpa using c3 | (simp at c3 ⊢; omega)
  obtain rfl := Option.some.inj H
  go_enter Try.func21, Try.ntmps21
  go_wp2
  repeat (go_quiet (fail); try go_wp2)
  go_ret
  exact ⟨by first | rfl | (simp; done) | (simp [*]; done), by repeat (first | exact Drawn0.refl _ | apply Drawn0.step)⟩

/-! ### gimbalref9_Next: function 22 -/
def gimbalref9_Next.f (a0_0 : Int) (a0_1 : Int) (a0_2 : Bool) (a0_3 : Int) (a0_4 : Int) (a0_5 : Int) (a0_6 : Bool) (a0_7 : Int) (a0_8 : Int) : Option (Int × Int × List Int × Int × Bool) := if a0_4 = 1 then (some (a0_0, 0, ([] : List Int), 1, true)) else (if a0_4 = 2 then (some (a0_0, 2, (([(a0_3) % 256] : List Int)), 0, true)) else (if a0_4 = 3 then (some (a0_0, 1, (([1] : List Int)), 0, true)) else (if a0_4 = 4 then (some (a0_0, 3, ([] : List Int), 1, true)) else (if a0_4 = 5 then (some (a0_0, 4, ([] : List Int), wrap64 (8 * a0_7), true)) else (if a0_4 = 6 then (some (a0_0, 1, (([0] : List Int)), 0, true)) else (if a0_4 = 7 then (some (a0_0, 5, (([182] : List Int)), 0, true)) else (some (0, 0, ([] : List Int), 0, false))))))))
set_option maxHeartbeats 8000000 in
set_option maxRecDepth 100000 in
theorem gimbalref9_Next.calls (a0_0 : Int) (a0_1 : Int) (a0_2 : Bool) (a0_3 : Int) (a0_4 : Int) (a0_5 : Int) (a0_6 : Bool) (a0_7 : Int) (a0_8 : Int) (r1 : Int) (r2 : Int) (r3 : List Int) (r4 : Int) (r5 : Bool) (w : World) (h : gimbalref9_Next.f a0_0 a0_1 a0_2 a0_3 a0_4 a0_5 a0_6 a0_7 a0_8 = some (r1, r2, r3, r4, r5)) :
  Calls Try.prog 22 #[.agg #[.int .i64 a0_0, .int .i64 a0_1, .bool a0_2, .int .i64 a0_3, .int .i64 a0_4, .int .i64 a0_5, .bool a0_6, .int .i64 a0_7, .int .i64 a0_8]] w fun e w' => ∃ v2_ : Value, e = .returned (.tuple #[.agg #[.int .i64 r1, .int .i64 r2, v2_, .int .i64 r4], .bool r5]) ∧ Kd.R (Kd.int .u8) 5 w' w.heap.size (fun _ => True) v2_ r3 ∧ Below w.heap.size w w' := by
 have hu24 := Try.underlying24
 have hu31 := Try.underlying31
 have HB := Aside0.mk (Below.refl w.heap.size w)
 have H : (if a0_4 = 1 then (some (a0_0, 0, ([] : List Int), 1, true)) else (if a0_4 = 2 then (some (a0_0, 2, (([(a0_3) % 256] : List Int)), 0, true)) else (if a0_4 = 3 then (some (a0_0, 1, (([1] : List Int)), 0, true)) else (if a0_4 = 4 then (some (a0_0, 3, ([] : List Int), 1, true)) else (if a0_4 = 5 then (some (a0_0, 4, ([] : List Int), wrap64 (8 * a0_7), true)) else (if a0_4 = 6 then (some (a0_0, 1, (([0] : List Int)), 0, true)) else (if a0_4 = 7 then (some (a0_0, 5, (([182] : List Int)), 0, true)) else (some (0, 0, ([] : List Int), 0, false))))))))) = some (r1, r2, r3, r4, r5) := h
 clear h
 by_cases c2 : a0_4 = 1
 ·rw [if_pos c2] at H
  have c2b0 : (a0_4 == 1) = true := beq_iff_eq.mpr c2
  have c2b1 : (a0_4 != 1) = false := bne_eq_false_iff_eq.mpr c2
  clear c2
  simp only [Option.some.injEq, Prod.mk.injEq] at H
  obtain ⟨rfl, rfl, rfl, rfl, rfl⟩ := H
  go_enter Try.func22, Try.ntmps22
  go_upto_region 1 with (first | ((with_reducible refine gate_dst (N := 1) rfl ?_); refine box_event ?hg (N := 1) ?hd (cs := #[.int .i64 a0_0, .int .i64 a0_1, .bool a0_2, .int .i64 a0_3, .int .i64 a0_4, .int .i64 a0_5, .bool a0_6, .int .i64 a0_7, .int .i64 a0_8]) (t := 24) ?hr ?_; (case hd => rfl); (case hg => rfl); (case hr => first | (go_simp; done) | (go_simp; rfl)); intro gb168 hg w3 hbox hb; have BK168 := Aside0.mk hbox; have GW168 := Sq.ge hg HB; have GE168 := Sq.ge hg HB; replace HB := Sq.sw HB hb; clear hb hbox hg) | ((with_reducible refine gate_dst (N := 2) rfl ?_); refine box_event ?hg (N := 2) ?hd (cs := #[.int .i64 0, .int .i64 0, .slice none 0 0, .int .i64 0]) (t := 31) ?hr ?_; (case hd => rfl); (case hg => rfl); (case hr => first | (go_simp; done) | (go_simp; rfl)); intro gb169 hg w4 hbox hb; have BK169 := Aside0.mk hbox; have GW169 := Sq.ge hg HB; have GE169 := Sq.ge hg HB; obtain ⟨NB168_169, NB169_168⟩ := Sq.np hg BK168; replace BK168 := Sq.sb BK168 hb; replace HB := Sq.sw HB hb; clear hb hbox hg; have b5 := NB168_169.out; have d5 := NB169_168.out; obtain ⟨z6_0, z6_1, z6_2, z6_3, z6_4, z6_5, z6_6, z6_7, z6_8⟩ := Sq.c9 BK168.out; obtain ⟨y6_0, y6_1, y6_2, y6_3, y6_4, y6_5, y6_6, y6_7, y6_8⟩ := Sq.f9 BK168.out))
  refine Cu.wp_cut (Cu.rep 4 Cu.f (Cu.rep 5 Cu.t (Cu.rep 1 Cu.f (Cu.rep 1 Cu.t (Cu.rep 1 Cu.f (Cu.rep 2 Cu.t (Cu.rep 1 Cu.f (Cu.rep 7 Cu.t (Cu.rep 1 Cu.f (Cu.rep 4 Cu.t (Cu.rep 1 Cu.f (Cu.rep 3 Cu.t (Cu.rep 1 Cu.f (Cu.rep 6 Cu.t (Cu.rep 1 Cu.f (Cu.rep 4 Cu.t (Cu.rep 1 Cu.f (Cu.rep 5 Cu.t [])))))))))))))))))) 37 (fun us_ wc => ∃ (g : Nat), (Cu.nth us_ 0) = .pointer (some ⟨g, 0, none⟩) ∧ Aside0 (wc.heap[g]? = some (.cells #[.int .i64 a0_0, .int .i64 0, .slice none 0 0, .int .i64 0] 31 (0, 0))) ∧ Aside0 (w.heap.size ≤ g) ∧ Aside0 (gb168 ≠ g) ∧ Aside0 (g ≠ gb168) ∧ Aside0 (gb169 ≠ g) ∧ Aside0 (g ≠ gb169) ∧ Aside0 (wc.heap[gb168]? = some (.cells #[.int .i64 a0_0, .int .i64 a0_1, .bool a0_2, .int .i64 a0_3, .int .i64 a0_4, .int .i64 a0_5, .bool a0_6, .int .i64 a0_7, .int .i64 a0_8] 24 (0, 0))) ∧ Aside0 (wc.heap[gb169]? = some (.cells #[.int .i64 0, .int .i64 0, .slice none 0 0, .int .i64 0] 31 (0, 0))) ∧ Aside0 (Below w.heap.size w wc)) ?_ ?_
  ·
   intro _ _ _ _
   go_wp2_with (first | ((with_reducible refine gate_dst (N := 4) rfl ?_); refine box_event ?hg (N := 4) ?hd (cs := #[.int .i64 0, .int .i64 0, .slice none 0 0, .int .i64 0]) (t := 31) ?hr ?_; (case hd => rfl); (case hg => rfl); (case hr => first | (go_simp; done) | (go_simp; rfl)); intro gb170 hg w7 hbox hb; have BK170 := Aside0.mk hbox; have GW170 := Sq.ge hg HB; have GE170 := Sq.ge hg HB; obtain ⟨NB168_170, NB170_168⟩ := Sq.np hg BK168; obtain ⟨NB169_170, NB170_169⟩ := Sq.np hg BK169; replace BK168 := Sq.sb BK168 hb; replace BK169 := Sq.sb BK169 hb; replace HB := Sq.sw HB hb; clear hb hbox hg; have b8 := NB170_168.out; have d8 := NB168_170.out; have b9 := NB170_169.out; have d9 := NB169_170.out; obtain ⟨z10_0, z10_1, z10_2, z10_3⟩ := Sq.c4 BK170.out; obtain ⟨y10_0, y10_1, y10_2, y10_3⟩ := Sq.f4 BK170.out; obtain ⟨z11_0, z11_1, z11_2, z11_3, z11_4, z11_5, z11_6, z11_7, z11_8⟩ := Sq.c9 BK168.out; obtain ⟨y11_0, y11_1, y11_2, y11_3, y11_4, y11_5, y11_6, y11_7, y11_8⟩ := Sq.f9 BK168.out; obtain ⟨z12_0, z12_1, z12_2, z12_3⟩ := Sq.c4 BK169.out; obtain ⟨y12_0, y12_1, y12_2, y12_3⟩ := Sq.f4 BK169.out))
   all_goals (refine Cu.meet (by assumption) ?_ (by kernel_rfl) (by kernel_rfl); try dsimp only [Cu.pick, Cu.rep, Cu.nth])
   all_goals exact ⟨gb170, rfl, ⟨Sq.B BK170.out⟩, GW170, NB168_170, NB170_168, NB169_170, NB170_169, ⟨Sq.F BK168.out⟩, ⟨Sq.F BK169.out⟩, ⟨Sq.w HB.out⟩⟩
  intro wc u4 u5 u6 u7 u8 u10 u12 u13 u15 u16 u17 u18 u19 u20 u21 u23 u24 u25 u26 u28 u29 u30 u32 u33 u34 u35 u36 u37 u39 u40 u41 u42 u44 u45 u46 u47 u48
  try dsimp only [Cu.over, Cu.rep, Cu.nth]
  intro hcut
  obtain ⟨gb170, rfl, BK170, GW170, NB168_170, NB170_168, NB169_170, NB170_169, BK168, BK169, HB⟩ := hcut
  have GE170 := GW170; have b8 := NB170_168.out; have d8 := NB168_170.out; have b9 := NB170_169.out; have d9 := NB169_170.out; obtain ⟨z10_0, z10_1, z10_2, z10_3⟩ := Sq.c4 BK170.out; obtain ⟨y10_0, y10_1, y10_2, y10_3⟩ := Sq.f4 BK170.out; obtain ⟨z11_0, z11_1, z11_2, z11_3, z11_4, z11_5, z11_6, z11_7, z11_8⟩ := Sq.c9 BK168.out; obtain ⟨y11_0, y11_1, y11_2, y11_3, y11_4, y11_5, y11_6, y11_7, y11_8⟩ := Sq.f9 BK168.out; obtain ⟨z12_0, z12_1, z12_2, z12_3⟩ := Sq.c4 BK169.out; obtain ⟨y12_0, y12_1, y12_2, y12_3⟩ := Sq.f4 BK169.out
  go_wp2
  refine bodyPost_ret (results_ct rfl _ _ gb169 31 #[.int .i64 a0_0, .int .i64 0, .slice none 0 0, .int .i64 1] (0, 0) _ rfl (Sq.B BK169.out) Try.underlying31 rfl (by kernel_rfl)) rfl ?_
  exact ⟨_, by first | rfl | (simp [errW_none, errW_some] <;> rfl) | (simp [*, errW_none, errW_some] <;> rfl), by first | exact Kd.R_nil _ _ _ _ _ | exact Kd.N_nil _ _ _ _ _ | exact Kd.V_nil _ _ _ _ _ | exact Kd.Q_nil _ _ _ _ _ | exact Kd.S_nil _ _ _ _ _, Sq.w HB.out⟩
 ·rw [if_neg c2] at H
  have c2b0 : (a0_4 == 1) = false := beq_eq_false_iff_ne.mpr c2
  have c2b1 : (a0_4 != 1) = true := bne_iff_ne.mpr c2
  by_cases c13 : a0_4 = 2
  ·rw [if_pos c13] at H
   have c13b0 : (a0_4 == 2) = true := beq_iff_eq.mpr c13
   have c13b1 : (a0_4 != 2) = false := bne_eq_false_iff_eq.mpr c13
   clear c13
   obtain ⟨y171, hy171⟩ : ∃ y_ : List Int, y_ = (([(a0_3) % 256] : List Int)) := ⟨_, rfl⟩
   replace H : (some (a0_0, 2, y171, 0, true)) = some (r1, r2, r3, r4, r5) := by first | (rw [hy171]; with_reducible exact H) | (have H2_ := (Option.bind_some _ _).symm.trans H; rw [hy171]; with_reducible exact H2_) | (have H2_ := (Option.bind_some _ _).symm.trans H; with_reducible exact H2_) | with_reducible exact H | (rw [hy171]; exact H) | exact H
   have Ny171 := Aside0.mk hy171
   clear hy171
   simp only [Option.some.injEq, Prod.mk.injEq] at H
   obtain ⟨rfl, rfl, rfl, rfl, rfl⟩ := H
   go_enter Try.func22, Try.ntmps22
   go_upto_region 1 with (first | ((with_reducible refine gate_dst (N := 1) rfl ?_); refine box_event ?hg (N := 1) ?hd (cs := #[.int .i64 a0_0, .int .i64 a0_1, .bool a0_2, .int .i64 a0_3, .int .i64 a0_4, .int .i64 a0_5, .bool a0_6, .int .i64 a0_7, .int .i64 a0_8]) (t := 24) ?hr ?_; (case hd => rfl); (case hg => rfl); (case hr => first | (go_simp; done) | (go_simp; rfl)); intro gb168 hg w14 hbox hb; have BK168 := Aside0.mk hbox; have GW168 := Sq.ge hg HB; have GE168 := Sq.ge hg HB; replace HB := Sq.sw HB hb; clear hb hbox hg) | ((with_reducible refine gate_dst (N := 2) rfl ?_); refine box_event ?hg (N := 2) ?hd (cs := #[.int .i64 0, .int .i64 0, .slice none 0 0, .int .i64 0]) (t := 31) ?hr ?_; (case hd => rfl); (case hg => rfl); (case hr => first | (go_simp; done) | (go_simp; rfl)); intro gb169 hg w15 hbox hb; have BK169 := Aside0.mk hbox; have GW169 := Sq.ge hg HB; have GE169 := Sq.ge hg HB; obtain ⟨NB168_169, NB169_168⟩ := Sq.np hg BK168; replace BK168 := Sq.sb BK168 hb; replace HB := Sq.sw HB hb; clear hb hbox hg; have b16 := NB168_169.out; have d16 := NB169_168.out; obtain ⟨z17_0, z17_1, z17_2, z17_3, z17_4, z17_5, z17_6, z17_7, z17_8⟩ := Sq.c9 BK168.out; obtain ⟨y17_0, y17_1, y17_2, y17_3, y17_4, y17_5, y17_6, y17_7, y17_8⟩ := Sq.f9 BK168.out))
   refine Cu.wp_cut (Cu.rep 4 Cu.f (Cu.rep 5 Cu.t (Cu.rep 1 Cu.f (Cu.rep 1 Cu.t (Cu.rep 1 Cu.f (Cu.rep 2 Cu.t (Cu.rep 1 Cu.f (Cu.rep 7 Cu.t (Cu.rep 1 Cu.f (Cu.rep 4 Cu.t (Cu.rep 1 Cu.f (Cu.rep 3 Cu.t (Cu.rep 1 Cu.f (Cu.rep 6 Cu.t (Cu.rep 1 Cu.f (Cu.rep 4 Cu.t (Cu.rep 1 Cu.f (Cu.rep 5 Cu.t [])))))))))))))))))) 37 (fun us_ wc => ∃ (g : Nat), (Cu.nth us_ 0) = .pointer (some ⟨g, 0, none⟩) ∧ Aside0 (wc.heap[g]? = some (.cells #[.int .i64 a0_0, .int .i64 0, .slice none 0 0, .int .i64 0] 31 (0, 0))) ∧ Aside0 (w.heap.size ≤ g) ∧ Aside0 (gb168 ≠ g) ∧ Aside0 (g ≠ gb168) ∧ Aside0 (gb169 ≠ g) ∧ Aside0 (g ≠ gb169) ∧ Aside0 (wc.heap[gb168]? = some (.cells #[.int .i64 a0_0, .int .i64 a0_1, .bool a0_2, .int .i64 a0_3, .int .i64 a0_4, .int .i64 a0_5, .bool a0_6, .int .i64 a0_7, .int .i64 a0_8] 24 (0, 0))) ∧ Aside0 (wc.heap[gb169]? = some (.cells #[.int .i64 0, .int .i64 0, .slice none 0 0, .int .i64 0] 31 (0, 0))) ∧ Aside0 (Below w.heap.size w wc)) ?_ ?_
   ·
    intro _ _ _ _
    go_wp2_with (first | ((with_reducible refine gate_dst (N := 4) rfl ?_); refine box_event ?hg (N := 4) ?hd (cs := #[.int .i64 0, .int .i64 0, .slice none 0 0, .int .i64 0]) (t := 31) ?hr ?_; (case hd => rfl); (case hg => rfl); (case hr => first | (go_simp; done) | (go_simp; rfl)); intro gb170 hg w18 hbox hb; have BK170 := Aside0.mk hbox; have GW170 := Sq.ge hg HB; have GE170 := Sq.ge hg HB; obtain ⟨NB168_170, NB170_168⟩ := Sq.np hg BK168; obtain ⟨NB169_170, NB170_169⟩ := Sq.np hg BK169; replace BK168 := Sq.sb BK168 hb; replace BK169 := Sq.sb BK169 hb; replace HB := Sq.sw HB hb; clear hb hbox hg; have b19 := NB170_168.out; have d19 := NB168_170.out; have b20 := NB170_169.out; have d20 := NB169_170.out; obtain ⟨z21_0, z21_1, z21_2, z21_3⟩ := Sq.c4 BK170.out; obtain ⟨y21_0, y21_1, y21_2, y21_3⟩ := Sq.f4 BK170.out; obtain ⟨z22_0, z22_1, z22_2, z22_3, z22_4, z22_5, z22_6, z22_7, z22_8⟩ := Sq.c9 BK168.out; obtain ⟨y22_0, y22_1, y22_2, y22_3, y22_4, y22_5, y22_6, y22_7, y22_8⟩ := Sq.f9 BK168.out))
    all_goals (refine Cu.meet (by assumption) ?_ (by kernel_rfl) (by kernel_rfl); try dsimp only [Cu.pick, Cu.rep, Cu.nth])
    all_goals exact ⟨gb170, rfl, ⟨Sq.B BK170.out⟩, GW170, NB168_170, NB170_168, NB169_170, NB170_169, ⟨Sq.F BK168.out⟩, ⟨Sq.F BK169.out⟩, ⟨Sq.w HB.out⟩⟩
   intro wc u4 u5 u6 u7 u8 u10 u12 u13 u15 u16 u17 u18 u19 u20 u21 u23 u24 u25 u26 u28 u29 u30 u32 u33 u34 u35 u36 u37 u39 u40 u41 u42 u44 u45 u46 u47 u48
   try dsimp only [Cu.over, Cu.rep, Cu.nth]
   intro hcut
   obtain ⟨gb170, rfl, BK170, GW170, NB168_170, NB170_168, NB169_170, NB170_169, BK168, BK169, HB⟩ := hcut
   have GE170 := GW170; have b19 := NB170_168.out; have d19 := NB168_170.out; have b20 := NB170_169.out; have d20 := NB169_170.out; obtain ⟨z21_0, z21_1, z21_2, z21_3⟩ := Sq.c4 BK170.out; obtain ⟨y21_0, y21_1, y21_2, y21_3⟩ := Sq.f4 BK170.out; obtain ⟨z22_0, z22_1, z22_2, z22_3, z22_4, z22_5, z22_6, z22_7, z22_8⟩ := Sq.c9 BK168.out; obtain ⟨y22_0, y22_1, y22_2, y22_3, y22_4, y22_5, y22_6, y22_7, y22_8⟩ := Sq.f9 BK168.out
   go_wp2_with (first | ((with_reducible refine gate_dst (N := 20) rfl ?_); refine Kd.R_lit (Kd.int .u8) _ 5 ?hg (N := 20) ?hd (xs := ([(a0_3) % 256] : List Int)) (inner := [.int .u8 ((a0_3) % 256)]) (ok := fun _ => True) (okp := fun _ => True) ?hr ?hp (fun _ hk => hk) trivial (Below.refl _ _) (Nat.le_refl _) (by simp) ?_; (case hd => rfl); (case hg => rfl); (case hr => first | (go_simp; done) | (go_simp; rfl)); (case hp => exact (Reps.one (show Kd.M (Kd.int .u8) _ _ _ ((a0_3) % 256) [.int .u8 ((a0_3) % 256)] from rfl) (Reps.none _ _))); intro v172 w23 ho24 hb hg_ hnew_; clear hg_ hnew_; (first | rw [← Ny171.out] at ho24 | (simp only [Int.reduceToNat] at ho24; rw [← Ny171.out] at ho24)); have HO173 := Aside0.mk (Kd.R_lower ho24 (below_size (Sq.w HB.out))); replace BK168 := Sq.sF BK168 hb; replace BK169 := Sq.sF BK169 hb; replace BK170 := Aside0.mk (blk_below (g := gb170) (o := .cells #[.int .i64 a0_0, .int .i64 2, .slice none 0 0, .int .i64 0] 31 (0, 0)) (Sq.B BK170.out) hb); replace HB := Sq.sw HB hb; clear hb ho24; obtain ⟨Ao25, co25, eo25⟩ := Kd.R_slice HO173.out; subst eo25; obtain ⟨z26_0, z26_1, z26_2, z26_3⟩ := Sq.c4 BK170.out; obtain ⟨y26_0, y26_1, y26_2, y26_3⟩ := Sq.f4 BK170.out; obtain ⟨z27_0, z27_1, z27_2, z27_3⟩ := Sq.c4 BK169.out; obtain ⟨y27_0, y27_1, y27_2, y27_3⟩ := Sq.f4 BK169.out))
   refine bodyPost_ret (results_ct rfl _ _ gb169 31 #[.int .i64 a0_0, .int .i64 2, .slice Ao25 y171.length co25, .int .i64 0] (0, 0) _ rfl (Sq.B BK169.out) Try.underlying31 rfl (by kernel_rfl)) rfl ?_
   exact ⟨_, by first | rfl | (simp [errW_none, errW_some] <;> rfl) | (simp [*, errW_none, errW_some] <;> rfl), by (with_reducible repeat (first | apply Kd.R_alloc | apply Kd.R_drewN | apply Kd.R_drew)); exact Kd.R_mono (Kd.R_far (p := ⟨gb169, 3, none⟩) (Kd.R_far (p := ⟨gb169, 2, none⟩) (Kd.R_far (p := ⟨gb169, 1, none⟩) (Kd.R_far (p := ⟨gb169, 0, none⟩) (Kd.R_far (p := ⟨gb170, 2, none⟩) (Kd.R_types (Kd.R_types HO173.out BK170.out (by decide)) BK169.out (by decide)) (fun _ hk => hk.1.2) (.slice Ao25 y171.length co25)) (fun _ hk => hk.2) (.int .i64 a0_0)) (fun _ hk => hk.2) (.int .i64 2)) (fun _ hk => hk.2) (.slice Ao25 y171.length co25)) (fun _ hk => hk.2) (.int .i64 0)) (fun _ hk => trivial), Sq.w HB.out⟩
  ·rw [if_neg c13] at H
   have c13b0 : (a0_4 == 2) = false := beq_eq_false_iff_ne.mpr c13
   have c13b1 : (a0_4 != 2) = true := bne_iff_ne.mpr c13
   by_cases c28 : a0_4 = 3
   ·rw [if_pos c28] at H
    have c28b0 : (a0_4 == 3) = true := beq_iff_eq.mpr c28
    have c28b1 : (a0_4 != 3) = false := bne_eq_false_iff_eq.mpr c28
    clear c28
    obtain ⟨y174, hy174⟩ : ∃ y_ : List Int, y_ = (([1] : List Int)) := ⟨_, rfl⟩
    replace H : (some (a0_0, 1, y174, 0, true)) = some (r1, r2, r3, r4, r5) := by first | (rw [hy174]; with_reducible exact H) | (have H2_ := (Option.bind_some _ _).symm.trans H; rw [hy174]; with_reducible exact H2_) | (have H2_ := (Option.bind_some _ _).symm.trans H; with_reducible exact H2_) | with_reducible exact H | (rw [hy174]; exact H) | exact H
    have Ny174 := Aside0.mk hy174
    clear hy174
    simp only [Option.some.injEq, Prod.mk.injEq] at H
    obtain ⟨rfl, rfl, rfl, rfl, rfl⟩ := H
    go_enter Try.func22, Try.ntmps22
    go_upto_region 1 with (first | ((with_reducible refine gate_dst (N := 1) rfl ?_); refine box_event ?hg (N := 1) ?hd (cs := #[.int .i64 a0_0, .int .i64 a0_1, .bool a0_2, .int .i64 a0_3, .int .i64 a0_4, .int .i64 a0_5, .bool a0_6, .int .i64 a0_7, .int .i64 a0_8]) (t := 24) ?hr ?_; (case hd => rfl); (case hg => rfl); (case hr => first | (go_simp; done) | (go_simp; rfl)); intro gb168 hg w29 hbox hb; have BK168 := Aside0.mk hbox; have GW168 := Sq.ge hg HB; have GE168 := Sq.ge hg HB; replace HB := Sq.sw HB hb; clear hb hbox hg) | ((with_reducible refine gate_dst (N := 2) rfl ?_); refine box_event ?hg (N := 2) ?hd (cs := #[.int .i64 0, .int .i64 0, .slice none 0 0, .int .i64 0]) (t := 31) ?hr ?_; (case hd => rfl); (case hg => rfl); (case hr => first | (go_simp; done) | (go_simp; rfl)); intro gb169 hg w30 hbox hb; have BK169 := Aside0.mk hbox; have GW169 := Sq.ge hg HB; have GE169 := Sq.ge hg HB; obtain ⟨NB168_169, NB169_168⟩ := Sq.np hg BK168; replace BK168 := Sq.sb BK168 hb; replace HB := Sq.sw HB hb; clear hb hbox hg; have b31 := NB168_169.out; have d31 := NB169_168.out; obtain ⟨z32_0, z32_1, z32_2, z32_3, z32_4, z32_5, z32_6, z32_7, z32_8⟩ := Sq.c9 BK168.out; obtain ⟨y32_0, y32_1, y32_2, y32_3, y32_4, y32_5, y32_6, y32_7, y32_8⟩ := Sq.f9 BK168.out))
    refine Cu.wp_cut (Cu.rep 4 Cu.f (Cu.rep 5 Cu.t (Cu.rep 1 Cu.f (Cu.rep 1 Cu.t (Cu.rep 1 Cu.f (Cu.rep 2 Cu.t (Cu.rep 1 Cu.f (Cu.rep 7 Cu.t (Cu.rep 1 Cu.f (Cu.rep 4 Cu.t (Cu.rep 1 Cu.f (Cu.rep 3 Cu.t (Cu.rep 1 Cu.f (Cu.rep 6 Cu.t (Cu.rep 1 Cu.f (Cu.rep 4 Cu.t (Cu.rep 1 Cu.f (Cu.rep 5 Cu.t [])))))))))))))))))) 37 (fun us_ wc => ∃ (g : Nat), (Cu.nth us_ 0) = .pointer (some ⟨g, 0, none⟩) ∧ Aside0 (wc.heap[g]? = some (.cells #[.int .i64 a0_0, .int .i64 0, .slice none 0 0, .int .i64 0] 31 (0, 0))) ∧ Aside0 (w.heap.size ≤ g) ∧ Aside0 (gb168 ≠ g) ∧ Aside0 (g ≠ gb168) ∧ Aside0 (gb169 ≠ g) ∧ Aside0 (g ≠ gb169) ∧ Aside0 (wc.heap[gb168]? = some (.cells #[.int .i64 a0_0, .int .i64 a0_1, .bool a0_2, .int .i64 a0_3, .int .i64 a0_4, .int .i64 a0_5, .bool a0_6, .int .i64 a0_7, .int .i64 a0_8] 24 (0, 0))) ∧ Aside0 (wc.heap[gb169]? = some (.cells #[.int .i64 0, .int .i64 0, .slice none 0 0, .int .i64 0] 31 (0, 0))) ∧ Aside0 (Below w.heap.size w wc)) ?_ ?_
    ·
     intro _ _ _ _
     go_wp2_with (first | ((with_reducible refine gate_dst (N := 4) rfl ?_); refine box_event ?hg (N := 4) ?hd (cs := #[.int .i64 0, .int .i64 0, .slice none 0 0, .int .i64 0]) (t := 31) ?hr ?_; (case hd => rfl); (case hg => rfl); (case hr => first | (go_simp; done) | (go_simp; rfl)); intro gb170 hg w33 hbox hb; have BK170 := Aside0.mk hbox; have GW170 := Sq.ge hg HB; have GE170 := Sq.ge hg HB; obtain ⟨NB168_170, NB170_168⟩ := Sq.np hg BK168; obtain ⟨NB169_170, NB170_169⟩ := Sq.np hg BK169; replace BK168 := Sq.sb BK168 hb; replace BK169 := Sq.sb BK169 hb; replace HB := Sq.sw HB hb; clear hb hbox hg; have b34 := NB170_168.out; have d34 := NB168_170.out; have b35 := NB170_169.out; have d35 := NB169_170.out; obtain ⟨z36_0, z36_1, z36_2, z36_3⟩ := Sq.c4 BK170.out; obtain ⟨y36_0, y36_1, y36_2, y36_3⟩ := Sq.f4 BK170.out; obtain ⟨z37_0, z37_1, z37_2, z37_3, z37_4, z37_5, z37_6, z37_7, z37_8⟩ := Sq.c9 BK168.out; obtain ⟨y37_0, y37_1, y37_2, y37_3, y37_4, y37_5, y37_6, y37_7, y37_8⟩ := Sq.f9 BK168.out))
     all_goals (refine Cu.meet (by assumption) ?_ (by kernel_rfl) (by kernel_rfl); try dsimp only [Cu.pick, Cu.rep, Cu.nth])
     all_goals exact ⟨gb170, rfl, ⟨Sq.B BK170.out⟩, GW170, NB168_170, NB170_168, NB169_170, NB170_169, ⟨Sq.F BK168.out⟩, ⟨Sq.F BK169.out⟩, ⟨Sq.w HB.out⟩⟩
    intro wc u4 u5 u6 u7 u8 u10 u12 u13 u15 u16 u17 u18 u19 u20 u21 u23 u24 u25 u26 u28 u29 u30 u32 u33 u34 u35 u36 u37 u39 u40 u41 u42 u44 u45 u46 u47 u48
    try dsimp only [Cu.over, Cu.rep, Cu.nth]
    intro hcut
    obtain ⟨gb170, rfl, BK170, GW170, NB168_170, NB170_168, NB169_170, NB170_169, BK168, BK169, HB⟩ := hcut
    have GE170 := GW170; have b34 := NB170_168.out; have d34 := NB168_170.out; have b35 := NB170_169.out; have d35 := NB169_170.out; obtain ⟨z36_0, z36_1, z36_2, z36_3⟩ := Sq.c4 BK170.out; obtain ⟨y36_0, y36_1, y36_2, y36_3⟩ := Sq.f4 BK170.out; obtain ⟨z37_0, z37_1, z37_2, z37_3, z37_4, z37_5, z37_6, z37_7, z37_8⟩ := Sq.c9 BK168.out; obtain ⟨y37_0, y37_1, y37_2, y37_3, y37_4, y37_5, y37_6, y37_7, y37_8⟩ := Sq.f9 BK168.out
    go_wp2_with (first | ((with_reducible refine gate_dst (N := 25) rfl ?_); refine Kd.R_lit (Kd.int .u8) _ 5 ?hg (N := 25) ?hd (xs := ([1] : List Int)) (inner := [.int .u8 1]) (ok := fun _ => True) (okp := fun _ => True) ?hr ?hp (fun _ hk => hk) trivial (Below.refl _ _) (Nat.le_refl _) (by simp) ?_; (case hd => rfl); (case hg => rfl); (case hr => first | (go_simp; done) | (go_simp; rfl)); (case hp => exact (Reps.one (show Kd.M (Kd.int .u8) _ _ _ 1 [.int .u8 1] from rfl) (Reps.none _ _))); intro v175 w38 ho39 hb hg_ hnew_; clear hg_ hnew_; (first | rw [← Ny174.out] at ho39 | (simp only [Int.reduceToNat] at ho39; rw [← Ny174.out] at ho39)); have HO176 := Aside0.mk (Kd.R_lower ho39 (below_size (Sq.w HB.out))); replace BK168 := Sq.sF BK168 hb; replace BK169 := Sq.sF BK169 hb; replace BK170 := Aside0.mk (blk_below (g := gb170) (o := .cells #[.int .i64 a0_0, .int .i64 1, .slice none 0 0, .int .i64 0] 31 (0, 0)) (Sq.B BK170.out) hb); replace HB := Sq.sw HB hb; clear hb ho39; obtain ⟨Ao40, co40, eo40⟩ := Kd.R_slice HO176.out; subst eo40; obtain ⟨z41_0, z41_1, z41_2, z41_3⟩ := Sq.c4 BK170.out; obtain ⟨y41_0, y41_1, y41_2, y41_3⟩ := Sq.f4 BK170.out; obtain ⟨z42_0, z42_1, z42_2, z42_3⟩ := Sq.c4 BK169.out; obtain ⟨y42_0, y42_1, y42_2, y42_3⟩ := Sq.f4 BK169.out))
    refine bodyPost_ret (results_ct rfl _ _ gb169 31 #[.int .i64 a0_0, .int .i64 1, .slice Ao40 y174.length co40, .int .i64 0] (0, 0) _ rfl (Sq.B BK169.out) Try.underlying31 rfl (by kernel_rfl)) rfl ?_
    exact ⟨_, by first | rfl | (simp [errW_none, errW_some] <;> rfl) | (simp [*, errW_none, errW_some] <;> rfl), by (with_reducible repeat (first | apply Kd.R_alloc | apply Kd.R_drewN | apply Kd.R_drew)); exact Kd.R_mono (Kd.R_far (p := ⟨gb169, 3, none⟩) (Kd.R_far (p := ⟨gb169, 2, none⟩) (Kd.R_far (p := ⟨gb169, 1, none⟩) (Kd.R_far (p := ⟨gb169, 0, none⟩) (Kd.R_far (p := ⟨gb170, 2, none⟩) (Kd.R_types (Kd.R_types HO176.out BK170.out (by decide)) BK169.out (by decide)) (fun _ hk => hk.1.2) (.slice Ao40 y174.length co40)) (fun _ hk => hk.2) (.int .i64 a0_0)) (fun _ hk => hk.2) (.int .i64 1)) (fun _ hk => hk.2) (.slice Ao40 y174.length co40)) (fun _ hk => hk.2) (.int .i64 0)) (fun _ hk => trivial), Sq.w HB.out⟩
   ·rw [if_neg c28] at H
    have c28b0 : (a0_4 == 3) = false := beq_eq_false_iff_ne.mpr c28
    have c28b1 : (a0_4 != 3) = true := bne_iff_ne.mpr c28
    by_cases c43 : a0_4 = 4
    ·rw [if_pos c43] at H
     have c43b0 : (a0_4 == 4) = true := beq_iff_eq.mpr c43
     have c43b1 : (a0_4 != 4) = false := bne_eq_false_iff_eq.mpr c43
     clear c43
     simp only [Option.some.injEq, Prod.mk.injEq] at H
     obtain ⟨rfl, rfl, rfl, rfl, rfl⟩ := H
     go_enter Try.func22, Try.ntmps22
     go_upto_region 1 with (first | ((with_reducible refine gate_dst (N := 1) rfl ?_); refine box_event ?hg (N := 1) ?hd (cs := #[.int .i64 a0_0, .int .i64 a0_1, .bool a0_2, .int .i64 a0_3, .int .i64 a0_4, .int .i64 a0_5, .bool a0_6, .int .i64 a0_7, .int .i64 a0_8]) (t := 24) ?hr ?_; (case hd => rfl); (case hg => rfl); (case hr => first | (go_simp; done) | (go_simp; rfl)); intro gb168 hg w44 hbox hb; have BK168 := Aside0.mk hbox; have GW168 := Sq.ge hg HB; have GE168 := Sq.ge hg HB; replace HB := Sq.sw HB hb; clear hb hbox hg) | ((with_reducible refine gate_dst (N := 2) rfl ?_); refine box_event ?hg (N := 2) ?hd (cs := #[.int .i64 0, .int .i64 0, .slice none 0 0, .int .i64 0]) (t := 31) ?hr ?_; (case hd => rfl); (case hg => rfl); (case hr => first | (go_simp; done) | (go_simp; rfl)); intro gb169 hg w45 hbox hb; have BK169 := Aside0.mk hbox; have GW169 := Sq.ge hg HB; have GE169 := Sq.ge hg HB; obtain ⟨NB168_169, NB169_168⟩ := Sq.np hg BK168; replace BK168 := Sq.sb BK168 hb; replace HB := Sq.sw HB hb; clear hb hbox hg; have b46 := NB168_169.out; have d46 := NB169_168.out; obtain ⟨z47_0, z47_1, z47_2, z47_3, z47_4, z47_5, z47_6, z47_7, z47_8⟩ := Sq.c9 BK168.out; obtain ⟨y47_0, y47_1, y47_2, y47_3, y47_4, y47_5, y47_6, y47_7, y47_8⟩ := Sq.f9 BK168.out))
     refine Cu.wp_cut (Cu.rep 4 Cu.f (Cu.rep 5 Cu.t (Cu.rep 1 Cu.f (Cu.rep 1 Cu.t (Cu.rep 1 Cu.f (Cu.rep 2 Cu.t (Cu.rep 1 Cu.f (Cu.rep 7 Cu.t (Cu.rep 1 Cu.f (Cu.rep 4 Cu.t (Cu.rep 1 Cu.f (Cu.rep 3 Cu.t (Cu.rep 1 Cu.f (Cu.rep 6 Cu.t (Cu.rep 1 Cu.f (Cu.rep 4 Cu.t (Cu.rep 1 Cu.f (Cu.rep 5 Cu.t [])))))))))))))))))) 37 (fun us_ wc => ∃ (g : Nat), (Cu.nth us_ 0) = .pointer (some ⟨g, 0, none⟩) ∧ Aside0 (wc.heap[g]? = some (.cells #[.int .i64 a0_0, .int .i64 0, .slice none 0 0, .int .i64 0] 31 (0, 0))) ∧ Aside0 (w.heap.size ≤ g) ∧ Aside0 (gb168 ≠ g) ∧ Aside0 (g ≠ gb168) ∧ Aside0 (gb169 ≠ g) ∧ Aside0 (g ≠ gb169) ∧ Aside0 (wc.heap[gb168]? = some (.cells #[.int .i64 a0_0, .int .i64 a0_1, .bool a0_2, .int .i64 a0_3, .int .i64 a0_4, .int .i64 a0_5, .bool a0_6, .int .i64 a0_7, .int .i64 a0_8] 24 (0, 0))) ∧ Aside0 (wc.heap[gb169]? = some (.cells #[.int .i64 0, .int .i64 0, .slice none 0 0, .int .i64 0] 31 (0, 0))) ∧ Aside0 (Below w.heap.size w wc)) ?_ ?_
     ·
      intro _ _ _ _
      go_wp2_with (first | ((with_reducible refine gate_dst (N := 4) rfl ?_); refine box_event ?hg (N := 4) ?hd (cs := #[.int .i64 0, .int .i64 0, .slice none 0 0, .int .i64 0]) (t := 31) ?hr ?_; (case hd => rfl); (case hg => rfl); (case hr => first | (go_simp; done) | (go_simp; rfl)); intro gb170 hg w48 hbox hb; have BK170 := Aside0.mk hbox; have GW170 := Sq.ge hg HB; have GE170 := Sq.ge hg HB; obtain ⟨NB168_170, NB170_168⟩ := Sq.np hg BK168; obtain ⟨NB169_170, NB170_169⟩ := Sq.np hg BK169; replace BK168 := Sq.sb BK168 hb; replace BK169 := Sq.sb BK169 hb; replace HB := Sq.sw HB hb; clear hb hbox hg; have b49 := NB170_168.out; have d49 := NB168_170.out; have b50 := NB170_169.out; have d50 := NB169_170.out; obtain ⟨z51_0, z51_1, z51_2, z51_3⟩ := Sq.c4 BK170.out; obtain ⟨y51_0, y51_1, y51_2, y51_3⟩ := Sq.f4 BK170.out; obtain ⟨z52_0, z52_1, z52_2, z52_3, z52_4, z52_5, z52_6, z52_7, z52_8⟩ := Sq.c9 BK168.out; obtain ⟨y52_0, y52_1, y52_2, y52_3, y52_4, y52_5, y52_6, y52_7, y52_8⟩ := Sq.f9 BK168.out; obtain ⟨z53_0, z53_1, z53_2, z53_3⟩ := Sq.c4 BK169.out; obtain ⟨y53_0, y53_1, y53_2, y53_3⟩ := Sq.f4 BK169.out))
      all_goals (refine Cu.meet (by assumption) ?_ (by kernel_rfl) (by kernel_rfl); try dsimp only [Cu.pick, Cu.rep, Cu.nth])
      all_goals exact ⟨gb170, rfl, ⟨Sq.B BK170.out⟩, GW170, NB168_170, NB170_168, NB169_170, NB170_169, ⟨Sq.F BK168.out⟩, ⟨Sq.F BK169.out⟩, ⟨Sq.w HB.out⟩⟩
     intro wc u4 u5 u6 u7 u8 u10 u12 u13 u15 u16 u17 u18 u19 u20 u21 u23 u24 u25 u26 u28 u29 u30 u32 u33 u34 u35 u36 u37 u39 u40 u41 u42 u44 u45 u46 u47 u48
     try dsimp only [Cu.over, Cu.rep, Cu.nth]
     intro hcut
     obtain ⟨gb170, rfl, BK170, GW170, NB168_170, NB170_168, NB169_170, NB170_169, BK168, BK169, HB⟩ := hcut
     have GE170 := GW170; have b49 := NB170_168.out; have d49 := NB168_170.out; have b50 := NB170_169.out; have d50 := NB169_170.out; obtain ⟨z51_0, z51_1, z51_2, z51_3⟩ := Sq.c4 BK170.out; obtain ⟨y51_0, y51_1, y51_2, y51_3⟩ := Sq.f4 BK170.out; obtain ⟨z52_0, z52_1, z52_2, z52_3, z52_4, z52_5, z52_6, z52_7, z52_8⟩ := Sq.c9 BK168.out; obtain ⟨y52_0, y52_1, y52_2, y52_3, y52_4, y52_5, y52_6, y52_7, y52_8⟩ := Sq.f9 BK168.out; obtain ⟨z53_0, z53_1, z53_2, z53_3⟩ := Sq.c4 BK169.out; obtain ⟨y53_0, y53_1, y53_2, y53_3⟩ := Sq.f4 BK169.out
     go_wp2
     refine bodyPost_ret (results_ct rfl _ _ gb169 31 #[.int .i64 a0_0, .int .i64 3, .slice none 0 0, .int .i64 1] (0, 0) _ rfl (Sq.B BK169.out) Try.underlying31 rfl (by kernel_rfl)) rfl ?_
     exact ⟨_, by first | rfl | (simp [errW_none, errW_some] <;> rfl) | (simp [*, errW_none, errW_some] <;> rfl), by first | exact Kd.R_nil _ _ _ _ _ | exact Kd.N_nil _ _ _ _ _ | exact Kd.V_nil _ _ _ _ _ | exact Kd.Q_nil _ _ _ _ _ | exact Kd.S_nil _ _ _ _ _, Sq.w HB.out⟩
    ·rw [if_neg c43] at H
     have c43b0 : (a0_4 == 4) = false := beq_eq_false_iff_ne.mpr c43
     have c43b1 : (a0_4 != 4) = true := bne_iff_ne.mpr c43
     by_cases c54 : a0_4 = 5
     ·rw [if_pos c54] at H
      have c54b0 : (a0_4 == 5) = true := beq_iff_eq.mpr c54
      have c54b1 : (a0_4 != 5) = false := bne_eq_false_iff_eq.mpr c54
      clear c54
      simp only [Option.some.injEq, Prod.mk.injEq] at H
      obtain ⟨rfl, rfl, rfl, rfl, rfl⟩ := H
      go_enter Try.func22, Try.ntmps22
      go_upto_region 1 with (first | ((with_reducible refine gate_dst (N := 1) rfl ?_); refine box_event ?hg (N := 1) ?hd (cs := #[.int .i64 a0_0, .int .i64 a0_1, .bool a0_2, .int .i64 a0_3, .int .i64 a0_4, .int .i64 a0_5, .bool a0_6, .int .i64 a0_7, .int .i64 a0_8]) (t := 24) ?hr ?_; (case hd => rfl); (case hg => rfl); (case hr => first | (go_simp; done) | (go_simp; rfl)); intro gb168 hg w55 hbox hb; have BK168 := Aside0.mk hbox; have GW168 := Sq.ge hg HB; have GE168 := Sq.ge hg HB; replace HB := Sq.sw HB hb; clear hb hbox hg) | ((with_reducible refine gate_dst (N := 2) rfl ?_); refine box_event ?hg (N := 2) ?hd (cs := #[.int .i64 0, .int .i64 0, .slice none 0 0, .int .i64 0]) (t := 31) ?hr ?_; (case hd => rfl); (case hg => rfl); (case hr => first | (go_simp; done) | (go_simp; rfl)); intro gb169 hg w56 hbox hb; have BK169 := Aside0.mk hbox; have GW169 := Sq.ge hg HB; have GE169 := Sq.ge hg HB; obtain ⟨NB168_169, NB169_168⟩ := Sq.np hg BK168; replace BK168 := Sq.sb BK168 hb; replace HB := Sq.sw HB hb; clear hb hbox hg; have b57 := NB168_169.out; have d57 := NB169_168.out; obtain ⟨z58_0, z58_1, z58_2, z58_3, z58_4, z58_5, z58_6, z58_7, z58_8⟩ := Sq.c9 BK168.out; obtain ⟨y58_0, y58_1, y58_2, y58_3, y58_4, y58_5, y58_6, y58_7, y58_8⟩ := Sq.f9 BK168.out))
      refine Cu.wp_cut (Cu.rep 4 Cu.f (Cu.rep 5 Cu.t (Cu.rep 1 Cu.f (Cu.rep 1 Cu.t (Cu.rep 1 Cu.f (Cu.rep 2 Cu.t (Cu.rep 1 Cu.f (Cu.rep 7 Cu.t (Cu.rep 1 Cu.f (Cu.rep 4 Cu.t (Cu.rep 1 Cu.f (Cu.rep 3 Cu.t (Cu.rep 1 Cu.f (Cu.rep 6 Cu.t (Cu.rep 1 Cu.f (Cu.rep 4 Cu.t (Cu.rep 1 Cu.f (Cu.rep 5 Cu.t [])))))))))))))))))) 37 (fun us_ wc => ∃ (g : Nat), (Cu.nth us_ 0) = .pointer (some ⟨g, 0, none⟩) ∧ Aside0 (wc.heap[g]? = some (.cells #[.int .i64 a0_0, .int .i64 0, .slice none 0 0, .int .i64 0] 31 (0, 0))) ∧ Aside0 (w.heap.size ≤ g) ∧ Aside0 (gb168 ≠ g) ∧ Aside0 (g ≠ gb168) ∧ Aside0 (gb169 ≠ g) ∧ Aside0 (g ≠ gb169) ∧ Aside0 (wc.heap[gb168]? = some (.cells #[.int .i64 a0_0, .int .i64 a0_1, .bool a0_2, .int .i64 a0_3, .int .i64 a0_4, .int .i64 a0_5, .bool a0_6, .int .i64 a0_7, .int .i64 a0_8] 24 (0, 0))) ∧ Aside0 (wc.heap[gb169]? = some (.cells #[.int .i64 0, .int .i64 0, .slice none 0 0, .int .i64 0] 31 (0, 0))) ∧ Aside0 (Below w.heap.size w wc)) ?_ ?_
      ·
       intro _ _ _ _
       go_wp2_with (first | ((with_reducible refine gate_dst (N := 4) rfl ?_); refine box_event ?hg (N := 4) ?hd (cs := #[.int .i64 0, .int .i64 0, .slice none 0 0, .int .i64 0]) (t := 31) ?hr ?_; (case hd => rfl); (case hg => rfl); (case hr => first | (go_simp; done) | (go_simp; rfl)); intro gb170 hg w59 hbox hb; have BK170 := Aside0.mk hbox; have GW170 := Sq.ge hg HB; have GE170 := Sq.ge hg HB; obtain ⟨NB168_170, NB170_168⟩ := Sq.np hg BK168; obtain ⟨NB169_170, NB170_169⟩ := Sq.np hg BK169; replace BK168 := Sq.sb BK168 hb; replace BK169 := Sq.sb BK169 hb; replace HB := Sq.sw HB hb; clear hb hbox hg; have b60 := NB170_168.out; have d60 := NB168_170.out; have b61 := NB170_169.out; have d61 := NB169_170.out; obtain ⟨z62_0, z62_1, z62_2, z62_3⟩ := Sq.c4 BK170.out; obtain ⟨y62_0, y62_1, y62_2, y62_3⟩ := Sq.f4 BK170.out; obtain ⟨z63_0, z63_1, z63_2, z63_3, z63_4, z63_5, z63_6, z63_7, z63_8⟩ := Sq.c9 BK168.out; obtain ⟨y63_0, y63_1, y63_2, y63_3, y63_4, y63_5, y63_6, y63_7, y63_8⟩ := Sq.f9 BK168.out; obtain ⟨z64_0, z64_1, z64_2, z64_3⟩ := Sq.c4 BK169.out; obtain ⟨y64_0, y64_1, y64_2, y64_3⟩ := Sq.f4 BK169.out))
       all_goals (refine Cu.meet (by assumption) ?_ (by kernel_rfl) (by kernel_rfl); try dsimp only [Cu.pick, Cu.rep, Cu.nth])
       all_goals exact ⟨gb170, rfl, ⟨Sq.B BK170.out⟩, GW170, NB168_170, NB170_168, NB169_170, NB170_169, ⟨Sq.F BK168.out⟩, ⟨Sq.F BK169.out⟩, ⟨Sq.w HB.out⟩⟩
      intro wc u4 u5 u6 u7 u8 u10 u12 u13 u15 u16 u17 u18 u19 u20 u21 u23 u24 u25 u26 u28 u29 u30 u32 u33 u34 u35 u36 u37 u39 u40 u41 u42 u44 u45 u46 u47 u48
      try dsimp only [Cu.over, Cu.rep, Cu.nth]
      intro hcut
      obtain ⟨gb170, rfl, BK170, GW170, NB168_170, NB170_168, NB169_170, NB170_169, BK168, BK169, HB⟩ := hcut
      have GE170 := GW170; have b60 := NB170_168.out; have d60 := NB168_170.out; have b61 := NB170_169.out; have d61 := NB169_170.out; obtain ⟨z62_0, z62_1, z62_2, z62_3⟩ := Sq.c4 BK170.out; obtain ⟨y62_0, y62_1, y62_2, y62_3⟩ := Sq.f4 BK170.out; obtain ⟨z63_0, z63_1, z63_2, z63_3, z63_4, z63_5, z63_6, z63_7, z63_8⟩ := Sq.c9 BK168.out; obtain ⟨y63_0, y63_1, y63_2, y63_3, y63_4, y63_5, y63_6, y63_7, y63_8⟩ := Sq.f9 BK168.out; obtain ⟨z64_0, z64_1, z64_2, z64_3⟩ := Sq.c4 BK169.out; obtain ⟨y64_0, y64_1, y64_2, y64_3⟩ := Sq.f4 BK169.out
      go_wp2
      refine bodyPost_ret (results_ct rfl _ _ gb169 31 #[.int .i64 a0_0, .int .i64 4, .slice none 0 0, .int .i64 (wrap64 (8 * a0_7))] (0, 0) _ rfl (Sq.B BK169.out) Try.underlying31 rfl (by kernel_rfl)) rfl ?_
      exact ⟨_, by first | rfl | (simp [errW_none, errW_some] <;> rfl) | (simp [*, errW_none, errW_some] <;> rfl), by first | exact Kd.R_nil _ _ _ _ _ | exact Kd.N_nil _ _ _ _ _ | exact Kd.V_nil _ _ _ _ _ | exact Kd.Q_nil _ _ _ _ _ | exact Kd.S_nil _ _ _ _ _, Sq.w HB.out⟩
     ·rw [if_neg c54] at H
      have c54b0 : (a0_4 == 5) = false := beq_eq_false_iff_ne.mpr c54
      have c54b1 : (a0_4 != 5) = true := bne_iff_ne.mpr c54
      by_cases c65 : a0_4 = 6
      ·rw [if_pos c65] at H
       have c65b0 : (a0_4 == 6) = true := beq_iff_eq.mpr c65
       have c65b1 : (a0_4 != 6) = false := bne_eq_false_iff_eq.mpr c65
       clear c65
       obtain ⟨y177, hy177⟩ : ∃ y_ : List Int, y_ = (([0] : List Int)) := ⟨_, rfl⟩
       replace H : (some (a0_0, 1, y177, 0, true)) = some (r1, r2, r3, r4, r5) := by first | (rw [hy177]; with_reducible exact H) | (have H2_ := (Option.bind_some _ _).symm.trans H; rw [hy177]; with_reducible exact H2_) | (have H2_ := (Option.bind_some _ _).symm.trans H; with_reducible exact H2_) | with_reducible exact H | (rw [hy177]; exact H) | exact H
       have Ny177 := Aside0.mk hy177
       clear hy177
       simp only [Option.some.injEq, Prod.mk.injEq] at H
       obtain ⟨rfl, rfl, rfl, rfl, rfl⟩ := H
       go_enter Try.func22, Try.ntmps22
       go_upto_region 1 with (first | ((with_reducible refine gate_dst (N := 1) rfl ?_); refine box_event ?hg (N := 1) ?hd (cs := #[.int .i64 a0_0, .int .i64 a0_1, .bool a0_2, .int .i64 a0_3, .int .i64 a0_4, .int .i64 a0_5, .bool a0_6, .int .i64 a0_7, .int .i64 a0_8]) (t := 24) ?hr ?_; (case hd => rfl); (case hg => rfl); (case hr => first | (go_simp; done) | (go_simp; rfl)); intro gb168 hg w66 hbox hb; have BK168 := Aside0.mk hbox; have GW168 := Sq.ge hg HB; have GE168 := Sq.ge hg HB; replace HB := Sq.sw HB hb; clear hb hbox hg) | ((with_reducible refine gate_dst (N := 2) rfl ?_); refine box_event ?hg (N := 2) ?hd (cs := #[.int .i64 0, .int .i64 0, .slice none 0 0, .int .i64 0]) (t := 31) ?hr ?_; (case hd => rfl); (case hg => rfl); (case hr => first | (go_simp; done) | (go_simp; rfl)); intro gb169 hg w67 hbox hb; have BK169 := Aside0.mk hbox; have GW169 := Sq.ge hg HB; have GE169 := Sq.ge hg HB; obtain ⟨NB168_169, NB169_168⟩ := Sq.np hg BK168; replace BK168 := Sq.sb BK168 hb; replace HB := Sq.sw HB hb; clear hb hbox hg; have b68 := NB168_169.out; have d68 := NB169_168.out; obtain ⟨z69_0, z69_1, z69_2, z69_3, z69_4, z69_5, z69_6, z69_7, z69_8⟩ := Sq.c9 BK168.out; obtain ⟨y69_0, y69_1, y69_2, y69_3, y69_4, y69_5, y69_6, y69_7, y69_8⟩ := Sq.f9 BK168.out))
       refine Cu.wp_cut (Cu.rep 4 Cu.f (Cu.rep 5 Cu.t (Cu.rep 1 Cu.f (Cu.rep 1 Cu.t (Cu.rep 1 Cu.f (Cu.rep 2 Cu.t (Cu.rep 1 Cu.f (Cu.rep 7 Cu.t (Cu.rep 1 Cu.f (Cu.rep 4 Cu.t (Cu.rep 1 Cu.f (Cu.rep 3 Cu.t (Cu.rep 1 Cu.f (Cu.rep 6 Cu.t (Cu.rep 1 Cu.f (Cu.rep 4 Cu.t (Cu.rep 1 Cu.f (Cu.rep 5 Cu.t [])))))))))))))))))) 37 (fun us_ wc => ∃ (g : Nat), (Cu.nth us_ 0) = .pointer (some ⟨g, 0, none⟩) ∧ Aside0 (wc.heap[g]? = some (.cells #[.int .i64 a0_0, .int .i64 0, .slice none 0 0, .int .i64 0] 31 (0, 0))) ∧ Aside0 (w.heap.size ≤ g) ∧ Aside0 (gb168 ≠ g) ∧ Aside0 (g ≠ gb168) ∧ Aside0 (gb169 ≠ g) ∧ Aside0 (g ≠ gb169) ∧ Aside0 (wc.heap[gb168]? = some (.cells #[.int .i64 a0_0, .int .i64 a0_1, .bool a0_2, .int .i64 a0_3, .int .i64 a0_4, .int .i64 a0_5, .bool a0_6, .int .i64 a0_7, .int .i64 a0_8] 24 (0, 0))) ∧ Aside0 (wc.heap[gb169]? = some (.cells #[.int .i64 0, .int .i64 0, .slice none 0 0, .int .i64 0] 31 (0, 0))) ∧ Aside0 (Below w.heap.size w wc)) ?_ ?_
       ·
        intro _ _ _ _
        go_wp2_with (first | ((with_reducible refine gate_dst (N := 4) rfl ?_); refine box_event ?hg (N := 4) ?hd (cs := #[.int .i64 0, .int .i64 0, .slice none 0 0, .int .i64 0]) (t := 31) ?hr ?_; (case hd => rfl); (case hg => rfl); (case hr => first | (go_simp; done) | (go_simp; rfl)); intro gb170 hg w70 hbox hb; have BK170 := Aside0.mk hbox; have GW170 := Sq.ge hg HB; have GE170 := Sq.ge hg HB; obtain ⟨NB168_170, NB170_168⟩ := Sq.np hg BK168; obtain ⟨NB169_170, NB170_169⟩ := Sq.np hg BK169; replace BK168 := Sq.sb BK168 hb; replace BK169 := Sq.sb BK169 hb; replace HB := Sq.sw HB hb; clear hb hbox hg; have b71 := NB170_168.out; have d71 := NB168_170.out; have b72 := NB170_169.out; have d72 := NB169_170.out; obtain ⟨z73_0, z73_1, z73_2, z73_3⟩ := Sq.c4 BK170.out; obtain ⟨y73_0, y73_1, y73_2, y73_3⟩ := Sq.f4 BK170.out; obtain ⟨z74_0, z74_1, z74_2, z74_3, z74_4, z74_5, z74_6, z74_7, z74_8⟩ := Sq.c9 BK168.out; obtain ⟨y74_0, y74_1, y74_2, y74_3, y74_4, y74_5, y74_6, y74_7, y74_8⟩ := Sq.f9 BK168.out))
        all_goals (refine Cu.meet (by assumption) ?_ (by kernel_rfl) (by kernel_rfl); try dsimp only [Cu.pick, Cu.rep, Cu.nth])
        all_goals exact ⟨gb170, rfl, ⟨Sq.B BK170.out⟩, GW170, NB168_170, NB170_168, NB169_170, NB170_169, ⟨Sq.F BK168.out⟩, ⟨Sq.F BK169.out⟩, ⟨Sq.w HB.out⟩⟩
       intro wc u4 u5 u6 u7 u8 u10 u12 u13 u15 u16 u17 u18 u19 u20 u21 u23 u24 u25 u26 u28 u29 u30 u32 u33 u34 u35 u36 u37 u39 u40 u41 u42 u44 u45 u46 u47 u48
       try dsimp only [Cu.over, Cu.rep, Cu.nth]
       intro hcut
       obtain ⟨gb170, rfl, BK170, GW170, NB168_170, NB170_168, NB169_170, NB170_169, BK168, BK169, HB⟩ := hcut
       have GE170 := GW170; have b71 := NB170_168.out; have d71 := NB168_170.out; have b72 := NB170_169.out; have d72 := NB169_170.out; obtain ⟨z73_0, z73_1, z73_2, z73_3⟩ := Sq.c4 BK170.out; obtain ⟨y73_0, y73_1, y73_2, y73_3⟩ := Sq.f4 BK170.out; obtain ⟨z74_0, z74_1, z74_2, z74_3, z74_4, z74_5, z74_6, z74_7, z74_8⟩ := Sq.c9 BK168.out; obtain ⟨y74_0, y74_1, y74_2, y74_3, y74_4, y74_5, y74_6, y74_7, y74_8⟩ := Sq.f9 BK168.out
       go_wp2_with (first | ((with_reducible refine gate_dst (N := 41) rfl ?_); refine Kd.R_lit (Kd.int .u8) _ 5 ?hg (N := 41) ?hd (xs := ([0] : List Int)) (inner := [.int .u8 0]) (ok := fun _ => True) (okp := fun _ => True) ?hr ?hp (fun _ hk => hk) trivial (Below.refl _ _) (Nat.le_refl _) (by simp) ?_; (case hd => rfl); (case hg => rfl); (case hr => first | (go_simp; done) | (go_simp; rfl)); (case hp => exact (Reps.one (show Kd.M (Kd.int .u8) _ _ _ 0 [.int .u8 0] from rfl) (Reps.none _ _))); intro v178 w75 ho76 hb hg_ hnew_; clear hg_ hnew_; (first | rw [← Ny177.out] at ho76 | (simp only [Int.reduceToNat] at ho76; rw [← Ny177.out] at ho76)); have HO179 := Aside0.mk (Kd.R_lower ho76 (below_size (Sq.w HB.out))); replace BK168 := Sq.sF BK168 hb; replace BK169 := Sq.sF BK169 hb; replace BK170 := Aside0.mk (blk_below (g := gb170) (o := .cells #[.int .i64 a0_0, .int .i64 1, .slice none 0 0, .int .i64 0] 31 (0, 0)) (Sq.B BK170.out) hb); replace HB := Sq.sw HB hb; clear hb ho76; obtain ⟨Ao77, co77, eo77⟩ := Kd.R_slice HO179.out; subst eo77; obtain ⟨z78_0, z78_1, z78_2, z78_3⟩ := Sq.c4 BK170.out; obtain ⟨y78_0, y78_1, y78_2, y78_3⟩ := Sq.f4 BK170.out; obtain ⟨z79_0, z79_1, z79_2, z79_3⟩ := Sq.c4 BK169.out; obtain ⟨y79_0, y79_1, y79_2, y79_3⟩ := Sq.f4 BK169.out))
       refine bodyPost_ret (results_ct rfl _ _ gb169 31 #[.int .i64 a0_0, .int .i64 1, .slice Ao77 y177.length co77, .int .i64 0] (0, 0) _ rfl (Sq.B BK169.out) Try.underlying31 rfl (by kernel_rfl)) rfl ?_
       exact ⟨_, by first | rfl | (simp [errW_none, errW_some] <;> rfl) | (simp [*, errW_none, errW_some] <;> rfl), by (with_reducible repeat (first | apply Kd.R_alloc | apply Kd.R_drewN | apply Kd.R_drew)); exact Kd.R_mono (Kd.R_far (p := ⟨gb169, 3, none⟩) (Kd.R_far (p := ⟨gb169, 2, none⟩) (Kd.R_far (p := ⟨gb169, 1, none⟩) (Kd.R_far (p := ⟨gb169, 0, none⟩) (Kd.R_far (p := ⟨gb170, 2, none⟩) (Kd.R_types (Kd.R_types HO179.out BK170.out (by decide)) BK169.out (by decide)) (fun _ hk => hk.1.2) (.slice Ao77 y177.length co77)) (fun _ hk => hk.2) (.int .i64 a0_0)) (fun _ hk => hk.2) (.int .i64 1)) (fun _ hk => hk.2) (.slice Ao77 y177.length co77)) (fun _ hk => hk.2) (.int .i64 0)) (fun _ hk => trivial), Sq.w HB.out⟩
      ·rw [if_neg c65] at H
       have c65b0 : (a0_4 == 6) = false := beq_eq_false_iff_ne.mpr c65
       have c65b1 : (a0_4 != 6) = true := bne_iff_ne.mpr c65
       by_cases c80 : a0_4 = 7
       ·rw [if_pos c80] at H
        have c80b0 : (a0_4 == 7) = true := beq_iff_eq.mpr c80
        have c80b1 : (a0_4 != 7) = false := bne_eq_false_iff_eq.mpr c80
        clear c80
        obtain ⟨y180, hy180⟩ : ∃ y_ : List Int, y_ = (([182] : List Int)) := ⟨_, rfl⟩
        replace H : (some (a0_0, 5, y180, 0, true)) = some (r1, r2, r3, r4, r5) := by first | (rw [hy180]; with_reducible exact H) | (have H2_ := (Option.bind_some _ _).symm.trans H; rw [hy180]; with_reducible exact H2_) | (have H2_ := (Option.bind_some _ _).symm.trans H; with_reducible exact H2_) | with_reducible exact H | (rw [hy180]; exact H) | exact H
        have Ny180 := Aside0.mk hy180
        clear hy180
        simp only [Option.some.injEq, Prod.mk.injEq] at H
        obtain ⟨rfl, rfl, rfl, rfl, rfl⟩ := H
        go_enter Try.func22, Try.ntmps22
        go_upto_region 1 with (first | ((with_reducible refine gate_dst (N := 1) rfl ?_); refine box_event ?hg (N := 1) ?hd (cs := #[.int .i64 a0_0, .int .i64 a0_1, .bool a0_2, .int .i64 a0_3, .int .i64 a0_4, .int .i64 a0_5, .bool a0_6, .int .i64 a0_7, .int .i64 a0_8]) (t := 24) ?hr ?_; (case hd => rfl); (case hg => rfl); (case hr => first | (go_simp; done) | (go_simp; rfl)); intro gb168 hg w81 hbox hb; have BK168 := Aside0.mk hbox; have GW168 := Sq.ge hg HB; have GE168 := Sq.ge hg HB; replace HB := Sq.sw HB hb; clear hb hbox hg) | ((with_reducible refine gate_dst (N := 2) rfl ?_); refine box_event ?hg (N := 2) ?hd (cs := #[.int .i64 0, .int .i64 0, .slice none 0 0, .int .i64 0]) (t := 31) ?hr ?_; (case hd => rfl); (case hg => rfl); (case hr => first | (go_simp; done) | (go_simp; rfl)); intro gb169 hg w82 hbox hb; have BK169 := Aside0.mk hbox; have GW169 := Sq.ge hg HB; have GE169 := Sq.ge hg HB; obtain ⟨NB168_169, NB169_168⟩ := Sq.np hg BK168; replace BK168 := Sq.sb BK168 hb; replace HB := Sq.sw HB hb; clear hb hbox hg; have b83 := NB168_169.out; have d83 := NB169_168.out; obtain ⟨z84_0, z84_1, z84_2, z84_3, z84_4, z84_5, z84_6, z84_7, z84_8⟩ := Sq.c9 BK168.out; obtain ⟨y84_0, y84_1, y84_2, y84_3, y84_4, y84_5, y84_6, y84_7, y84_8⟩ := Sq.f9 BK168.out))
        refine Cu.wp_cut (Cu.rep 4 Cu.f (Cu.rep 5 Cu.t (Cu.rep 1 Cu.f (Cu.rep 1 Cu.t (Cu.rep 1 Cu.f (Cu.rep 2 Cu.t (Cu.rep 1 Cu.f (Cu.rep 7 Cu.t (Cu.rep 1 Cu.f (Cu.rep 4 Cu.t (Cu.rep 1 Cu.f (Cu.rep 3 Cu.t (Cu.rep 1 Cu.f (Cu.rep 6 Cu.t (Cu.rep 1 Cu.f (Cu.rep 4 Cu.t (Cu.rep 1 Cu.f (Cu.rep 5 Cu.t [])))))))))))))))))) 37 (fun us_ wc => ∃ (g : Nat), (Cu.nth us_ 0) = .pointer (some ⟨g, 0, none⟩) ∧ Aside0 (wc.heap[g]? = some (.cells #[.int .i64 a0_0, .int .i64 0, .slice none 0 0, .int .i64 0] 31 (0, 0))) ∧ Aside0 (w.heap.size ≤ g) ∧ Aside0 (gb168 ≠ g) ∧ Aside0 (g ≠ gb168) ∧ Aside0 (gb169 ≠ g) ∧ Aside0 (g ≠ gb169) ∧ Aside0 (wc.heap[gb168]? = some (.cells #[.int .i64 a0_0, .int .i64 a0_1, .bool a0_2, .int .i64 a0_3, .int .i64 a0_4, .int .i64 a0_5, .bool a0_6, .int .i64 a0_7, .int .i64 a0_8] 24 (0, 0))) ∧ Aside0 (wc.heap[gb169]? = some (.cells #[.int .i64 0, .int .i64 0, .slice none 0 0, .int .i64 0] 31 (0, 0))) ∧ Aside0 (Below w.heap.size w wc)) ?_ ?_
        ·
         intro _ _ _ _
         go_wp2_with (first | ((with_reducible refine gate_dst (N := 4) rfl ?_); refine box_event ?hg (N := 4) ?hd (cs := #[.int .i64 0, .int .i64 0, .slice none 0 0, .int .i64 0]) (t := 31) ?hr ?_; (case hd => rfl); (case hg => rfl); (case hr => first | (go_simp; done) | (go_simp; rfl)); intro gb170 hg w85 hbox hb; have BK170 := Aside0.mk hbox; have GW170 := Sq.ge hg HB; have GE170 := Sq.ge hg HB; obtain ⟨NB168_170, NB170_168⟩ := Sq.np hg BK168; obtain ⟨NB169_170, NB170_169⟩ := Sq.np hg BK169; replace BK168 := Sq.sb BK168 hb; replace BK169 := Sq.sb BK169 hb; replace HB := Sq.sw HB hb; clear hb hbox hg; have b86 := NB170_168.out; have d86 := NB168_170.out; have b87 := NB170_169.out; have d87 := NB169_170.out; obtain ⟨z88_0, z88_1, z88_2, z88_3⟩ := Sq.c4 BK170.out; obtain ⟨y88_0, y88_1, y88_2, y88_3⟩ := Sq.f4 BK170.out; obtain ⟨z89_0, z89_1, z89_2, z89_3, z89_4, z89_5, z89_6, z89_7, z89_8⟩ := Sq.c9 BK168.out; obtain ⟨y89_0, y89_1, y89_2, y89_3, y89_4, y89_5, y89_6, y89_7, y89_8⟩ := Sq.f9 BK168.out))
         all_goals (refine Cu.meet (by assumption) ?_ (by kernel_rfl) (by kernel_rfl); try dsimp only [Cu.pick, Cu.rep, Cu.nth])
         all_goals exact ⟨gb170, rfl, ⟨Sq.B BK170.out⟩, GW170, NB168_170, NB170_168, NB169_170, NB170_169, ⟨Sq.F BK168.out⟩, ⟨Sq.F BK169.out⟩, ⟨Sq.w HB.out⟩⟩
        intro wc u4 u5 u6 u7 u8 u10 u12 u13 u15 u16 u17 u18 u19 u20 u21 u23 u24 u25 u26 u28 u29 u30 u32 u33 u34 u35 u36 u37 u39 u40 u41 u42 u44 u45 u46 u47 u48
        try dsimp only [Cu.over, Cu.rep, Cu.nth]
        intro hcut
        obtain ⟨gb170, rfl, BK170, GW170, NB168_170, NB170_168, NB169_170, NB170_169, BK168, BK169, HB⟩ := hcut
        have GE170 := GW170; have b86 := NB170_168.out; have d86 := NB168_170.out; have b87 := NB170_169.out; have d87 := NB169_170.out; obtain ⟨z88_0, z88_1, z88_2, z88_3⟩ := Sq.c4 BK170.out; obtain ⟨y88_0, y88_1, y88_2, y88_3⟩ := Sq.f4 BK170.out; obtain ⟨z89_0, z89_1, z89_2, z89_3, z89_4, z89_5, z89_6, z89_7, z89_8⟩ := Sq.c9 BK168.out; obtain ⟨y89_0, y89_1, y89_2, y89_3, y89_4, y89_5, y89_6, y89_7, y89_8⟩ := Sq.f9 BK168.out
        go_wp2_with (first | ((with_reducible refine gate_dst (N := 46) rfl ?_); refine Kd.R_lit (Kd.int .u8) _ 5 ?hg (N := 46) ?hd (xs := ([182] : List Int)) (inner := [.int .u8 182]) (ok := fun _ => True) (okp := fun _ => True) ?hr ?hp (fun _ hk => hk) trivial (Below.refl _ _) (Nat.le_refl _) (by simp) ?_; (case hd => rfl); (case hg => rfl); (case hr => first | (go_simp; done) | (go_simp; rfl)); (case hp => exact (Reps.one (show Kd.M (Kd.int .u8) _ _ _ 182 [.int .u8 182] from rfl) (Reps.none _ _))); intro v181 w90 ho91 hb hg_ hnew_; clear hg_ hnew_; (first | rw [← Ny180.out] at ho91 | (simp only [Int.reduceToNat] at ho91; rw [← Ny180.out] at ho91)); have HO182 := Aside0.mk (Kd.R_lower ho91 (below_size (Sq.w HB.out))); replace BK168 := Sq.sF BK168 hb; replace BK169 := Sq.sF BK169 hb; replace BK170 := Aside0.mk (blk_below (g := gb170) (o := .cells #[.int .i64 a0_0, .int .i64 5, .slice none 0 0, .int .i64 0] 31 (0, 0)) (Sq.B BK170.out) hb); replace HB := Sq.sw HB hb; clear hb ho91; obtain ⟨Ao92, co92, eo92⟩ := Kd.R_slice HO182.out; subst eo92; obtain ⟨z93_0, z93_1, z93_2, z93_3⟩ := Sq.c4 BK170.out; obtain ⟨y93_0, y93_1, y93_2, y93_3⟩ := Sq.f4 BK170.out; obtain ⟨z94_0, z94_1, z94_2, z94_3⟩ := Sq.c4 BK169.out; obtain ⟨y94_0, y94_1, y94_2, y94_3⟩ := Sq.f4 BK169.out))
        refine bodyPost_ret (results_ct rfl _ _ gb169 31 #[.int .i64 a0_0, .int .i64 5, .slice Ao92 y180.length co92, .int .i64 0] (0, 0) _ rfl (Sq.B BK169.out) Try.underlying31 rfl (by kernel_rfl)) rfl ?_
        exact ⟨_, by first | rfl | (simp [errW_none, errW_some] <;> rfl) | (simp [*, errW_none, errW_some] <;> rfl), by (with_reducible repeat (first | apply Kd.R_alloc | apply Kd.R_drewN | apply Kd.R_drew)); exact Kd.R_mono (Kd.R_far (p := ⟨gb169, 3, none⟩) (Kd.R_far (p := ⟨gb169, 2, none⟩) (Kd.R_far (p := ⟨gb169, 1, none⟩) (Kd.R_far (p := ⟨gb169, 0, none⟩) (Kd.R_far (p := ⟨gb170, 2, none⟩) (Kd.R_types (Kd.R_types HO182.out BK170.out (by decide)) BK169.out (by decide)) (fun _ hk => hk.1.2) (.slice Ao92 y180.length co92)) (fun _ hk => hk.2) (.int .i64 a0_0)) (fun _ hk => hk.2) (.int .i64 5)) (fun _ hk => hk.2) (.slice Ao92 y180.length co92)) (fun _ hk => hk.2) (.int .i64 0)) (fun _ hk => trivial), Sq.w HB.out⟩
       ·rw [if_neg c80] at H
        have c80b0 : (a0_4 == 7) = false := beq_eq_false_iff_ne.mpr c80
        have c80b1 : (a0_4 != 7) = true := bne_iff_ne.mpr c80
        simp only [Option.some.injEq, Prod.mk.injEq] at H
        obtain ⟨rfl, rfl, rfl, rfl, rfl⟩ := H
        go_enter Try.func22, Try.ntmps22
        go_upto_region 1 with (first | ((with_reducible refine gate_dst (N := 1) rfl ?_); refine box_event ?hg (N := 1) ?hd (cs := #[.int .i64 a0_0, .int .i64 a0_1, .bool a0_2, .int .i64 a0_3, .int .i64 a0_4, .int .i64 a0_5, .bool a0_6, .int .i64 a0_7, .int .i64 a0_8]) (t := 24) ?hr ?_; (case hd => rfl); (case hg => rfl); (case hr => first | (go_simp; done) | (go_simp; rfl)); intro gb168 hg w95 hbox hb; have BK168 := Aside0.mk hbox; have GW168 := Sq.ge hg HB; have GE168 := Sq.ge hg HB; replace HB := Sq.sw HB hb; clear hb hbox hg) | ((with_reducible refine gate_dst (N := 2) rfl ?_); refine box_event ?hg (N := 2) ?hd (cs := #[.int .i64 0, .int .i64 0, .slice none 0 0, .int .i64 0]) (t := 31) ?hr ?_; (case hd => rfl); (case hg => rfl); (case hr => first | (go_simp; done) | (go_simp; rfl)); intro gb169 hg w96 hbox hb; have BK169 := Aside0.mk hbox; have GW169 := Sq.ge hg HB; have GE169 := Sq.ge hg HB; obtain ⟨NB168_169, NB169_168⟩ := Sq.np hg BK168; replace BK168 := Sq.sb BK168 hb; replace HB := Sq.sw HB hb; clear hb hbox hg; have b97 := NB168_169.out; have d97 := NB169_168.out; obtain ⟨z98_0, z98_1, z98_2, z98_3, z98_4, z98_5, z98_6, z98_7, z98_8⟩ := Sq.c9 BK168.out; obtain ⟨y98_0, y98_1, y98_2, y98_3, y98_4, y98_5, y98_6, y98_7, y98_8⟩ := Sq.f9 BK168.out))
        refine Cu.wp_cut (Cu.rep 4 Cu.f (Cu.rep 5 Cu.t (Cu.rep 1 Cu.f (Cu.rep 1 Cu.t (Cu.rep 1 Cu.f (Cu.rep 2 Cu.t (Cu.rep 1 Cu.f (Cu.rep 7 Cu.t (Cu.rep 1 Cu.f (Cu.rep 4 Cu.t (Cu.rep 1 Cu.f (Cu.rep 3 Cu.t (Cu.rep 1 Cu.f (Cu.rep 6 Cu.t (Cu.rep 1 Cu.f (Cu.rep 4 Cu.t (Cu.rep 1 Cu.f (Cu.rep 5 Cu.t [])))))))))))))))))) 37 (fun us_ wc => ∃ (g : Nat), (Cu.nth us_ 0) = .pointer (some ⟨g, 0, none⟩) ∧ Aside0 (wc.heap[g]? = some (.cells #[.int .i64 a0_0, .int .i64 0, .slice none 0 0, .int .i64 0] 31 (0, 0))) ∧ Aside0 (w.heap.size ≤ g) ∧ Aside0 (gb168 ≠ g) ∧ Aside0 (g ≠ gb168) ∧ Aside0 (gb169 ≠ g) ∧ Aside0 (g ≠ gb169) ∧ Aside0 (wc.heap[gb168]? = some (.cells #[.int .i64 a0_0, .int .i64 a0_1, .bool a0_2, .int .i64 a0_3, .int .i64 a0_4, .int .i64 a0_5, .bool a0_6, .int .i64 a0_7, .int .i64 a0_8] 24 (0, 0))) ∧ Aside0 (wc.heap[gb169]? = some (.cells #[.int .i64 0, .int .i64 0, .slice none 0 0, .int .i64 0] 31 (0, 0))) ∧ Aside0 (Below w.heap.size w wc)) ?_ ?_
        ·
         intro _ _ _ _
         go_wp2_with (first | ((with_reducible refine gate_dst (N := 4) rfl ?_); refine box_event ?hg (N := 4) ?hd (cs := #[.int .i64 0, .int .i64 0, .slice none 0 0, .int .i64 0]) (t := 31) ?hr ?_; (case hd => rfl); (case hg => rfl); (case hr => first | (go_simp; done) | (go_simp; rfl)); intro gb170 hg w99 hbox hb; have BK170 := Aside0.mk hbox; have GW170 := Sq.ge hg HB; have GE170 := Sq.ge hg HB; obtain ⟨NB168_170, NB170_168⟩ := Sq.np hg BK168; obtain ⟨NB169_170, NB170_169⟩ := Sq.np hg BK169; replace BK168 := Sq.sb BK168 hb; replace BK169 := Sq.sb BK169 hb; replace HB := Sq.sw HB hb; clear hb hbox hg; have b100 := NB170_168.out; have d100 := NB168_170.out; have b101 := NB170_169.out; have d101 := NB169_170.out; obtain ⟨z102_0, z102_1, z102_2, z102_3⟩ := Sq.c4 BK170.out; obtain ⟨y102_0, y102_1, y102_2, y102_3⟩ := Sq.f4 BK170.out; obtain ⟨z103_0, z103_1, z103_2, z103_3, z103_4, z103_5, z103_6, z103_7, z103_8⟩ := Sq.c9 BK168.out; obtain ⟨y103_0, y103_1, y103_2, y103_3, y103_4, y103_5, y103_6, y103_7, y103_8⟩ := Sq.f9 BK168.out; obtain ⟨z104_0, z104_1, z104_2, z104_3⟩ := Sq.c4 BK169.out; obtain ⟨y104_0, y104_1, y104_2, y104_3⟩ := Sq.f4 BK169.out))
         all_goals (refine Cu.meet (by assumption) ?_ (by kernel_rfl) (by kernel_rfl); try dsimp only [Cu.pick, Cu.rep, Cu.nth])
         all_goals exact ⟨gb170, rfl, ⟨Sq.B BK170.out⟩, GW170, NB168_170, NB170_168, NB169_170, NB170_169, ⟨Sq.F BK168.out⟩, ⟨Sq.F BK169.out⟩, ⟨Sq.w HB.out⟩⟩
        intro wc u4 u5 u6 u7 u8 u10 u12 u13 u15 u16 u17 u18 u19 u20 u21 u23 u24 u25 u26 u28 u29 u30 u32 u33 u34 u35 u36 u37 u39 u40 u41 u42 u44 u45 u46 u47 u48
        try dsimp only [Cu.over, Cu.rep, Cu.nth]
        intro hcut
        obtain ⟨gb170, rfl, BK170, GW170, NB168_170, NB170_168, NB169_170, NB170_169, BK168, BK169, HB⟩ := hcut
        have GE170 := GW170; have b100 := NB170_168.out; have d100 := NB168_170.out; have b101 := NB170_169.out; have d101 := NB169_170.out; obtain ⟨z102_0, z102_1, z102_2, z102_3⟩ := Sq.c4 BK170.out; obtain ⟨y102_0, y102_1, y102_2, y102_3⟩ := Sq.f4 BK170.out; obtain ⟨z103_0, z103_1, z103_2, z103_3, z103_4, z103_5, z103_6, z103_7, z103_8⟩ := Sq.c9 BK168.out; obtain ⟨y103_0, y103_1, y103_2, y103_3, y103_4, y103_5, y103_6, y103_7, y103_8⟩ := Sq.f9 BK168.out; obtain ⟨z104_0, z104_1, z104_2, z104_3⟩ := Sq.c4 BK169.out; obtain ⟨y104_0, y104_1, y104_2, y104_3⟩ := Sq.f4 BK169.out
        go_wp2
        refine bodyPost_ret (results_ct rfl _ _ gb169 31 #[.int .i64 0, .int .i64 0, .slice none 0 0, .int .i64 0] (0, 0) _ rfl (Sq.B BK169.out) Try.underlying31 rfl (by kernel_rfl)) rfl ?_
        exact ⟨_, by first | rfl | (simp [errW_none, errW_some] <;> rfl) | (simp [*, errW_none, errW_some] <;> rfl), by first | exact Kd.R_nil _ _ _ _ _ | exact Kd.N_nil _ _ _ _ _ | exact Kd.V_nil _ _ _ _ _ | exact Kd.Q_nil _ _ _ _ _ | exact Kd.S_nil _ _ _ _ _, Sq.w HB.out⟩

/-! ### gimbalref8_Check: function 38 -/
def gimbalref8_Check.l0 : Nat → List Int → Int → Int → Option (Int)
 | 0, _, _, _ => none
 | k + 1, x0, x3, x4 => if x4 < 7 then (if 0 ≤ x4 then (if x4 < (x0.length : Int) then (gimbalref8_Check.l0 k x0 (Go.bits .xor .u8 x3 (rd x0 x4)) (wrap64 (x4 + 1))) else (none)) else (none)) else (some x3)
def gimbalref8_Check.f (k : Nat) (l0 : List Int) : Option (Int) := gimbalref8_Check.l0 k l0 90 0
theorem gimbalref8_Check.mono_l : ∀ k, (∀ y0 y1 y2, LeO (gimbalref8_Check.l0 k y0 y1 y2) (gimbalref8_Check.l0 (k + 1) y0 y1 y2))
 | 0 => fun _ _ _ r h => by simp [gimbalref8_Check.l0] at h
 | k + 1 => by
  have ih0 := gimbalref8_Check.mono_l k
  ·intro y0 y1 y2
   unfold gimbalref8_Check.l0
   repeat' first
   | (with_reducible exact ih0 _ _ _)
   | (with_reducible exact LeO.refl _)
   | (with_reducible exact LeO.none _)
   | (with_reducible refine LeO.ite ?_ ?_)
   | (with_reducible refine LeO.bind ?_ (fun _ => ?_))
   | exact ih0 _ _ _
   | exact LeO.none _
   | refine LeO.ite ?_ ?_
   | refine LeO.bind ?_ (fun _ => ?_)
theorem gimbalref8_Check.mono : ∀ a0 k, LeO (gimbalref8_Check.f k a0) (gimbalref8_Check.f (k + 1) a0) := by
 intro a0 k
 have ih0 := gimbalref8_Check.mono_l k
 unfold gimbalref8_Check.f
 repeat' first
   | (with_reducible exact ih0 _ _ _)
   | (with_reducible exact LeO.refl _)
   | (with_reducible exact LeO.none _)
   | (with_reducible refine LeO.ite ?_ ?_)
   | (with_reducible refine LeO.bind ?_ (fun _ => ?_))
   | exact ih0 _ _ _
   | exact LeO.none _
   | refine LeO.ite ?_ ?_
   | refine LeO.bind ?_ (fun _ => ?_)
set_option maxHeartbeats 8000000 in
set_option maxRecDepth 100000 in
theorem gimbalref8_Check.calls (k : Nat) (A0 : Option Addr) (c0 : Nat) (l0 : List Int) (r : Int) (w : World) (hr0 : Kd.C (Kd.int .u8) w A0 l0.length l0) (hc0 : l0.length ≤ c0) (h : gimbalref8_Check.f k l0 = some r) :
  Calls Try.prog 38 #[.slice A0 l0.length c0] w fun e w' => e = .returned (.int .u8 r) ∧ Drawn0 w w' := by
 have HR0 := Aside0.mk hr0
 have HC0 := Aside0.mk hc0
 clear hr0 hc0
 have H : (gimbalref8_Check.l0 k l0 90 0) = some r := h
 clear h
 have H' := Aside0.mk H
 clear H
 go_enter Try.func38, Try.ntmps38
 go_wp2
 refine Cu.wp_loop (Cu.rep 3 Cu.f (Cu.rep 12 Cu.t (Cu.rep 1 Cu.f []))) 12 (fun kq us_ w' => ∃ (x3_1 : Int) (x4_1 : Int), (Cu.nth us_ 0) = .int .u8 x3_1 ∧ (Cu.nth us_ 1) = .int .i64 x4_1 ∧ Aside0 (gimbalref8_Check.l0 kq l0 x3_1 x4_1 = some r) ∧ Aside0 (kq ≤ k) ∧ Drawn0 w w') k ?_ (by kernel_rfl) (by kernel_rfl) ?_
 · try dsimp only [Cu.pick, Cu.rep, Cu.nth]
   exact ⟨(90), (0), Sq.e, Sq.e, H', ⟨Nat.le_refl _⟩, by repeat (first | exact Drawn0.refl _ | apply Drawn0.step)⟩
 ·
  intro gk wr u3 u4 u5 u6 u7 u8 u9 u10 u11 u12 u13 u14
  try dsimp only [Cu.over, Cu.rep, Cu.nth]
  intro hrel _ _ _ _
  clear H'
  obtain ⟨x3_1, x4_1, rfl, rfl, HA, HK1, ⟨m1, rfl⟩⟩ := hrel
  cases gk with
  | zero => exact absurd HA.out (by simp [gimbalref8_Check.l0])
  | succ k1 =>
   have H := HA.out
   clear HA
   simp only [gimbalref8_Check.l0] at H
   by_cases c2 : x4_1 < 7
   ·rw [if_pos c2] at H
    have c2b0 : decide (x4_1 < 7) = true := decide_eq_true c2
    clear c2
    by_cases c3 : 0 ≤ x4_1
    ·rw [if_pos c3] at H
     have c3b0 : decide (0 ≤ x4_1) = true := decide_eq_true c3
     clear c3
     by_cases c4 : x4_1 < (l0.length : Int)
     ·rw [if_pos c4] at H
      have c4b0 : decide (x4_1 < (l0.length : Int)) = true := decide_eq_true c4
      clear c4
      have H' := Aside0.mk H
      clear H
      have p183 : 0 ≤ (x4_1 : Int) := of_decide_eq_true (by first | (with_reducible assumption) | assumption)
      have q183 : x4_1 < (l0.length : Int) := of_decide_eq_true (by first | (with_reducible assumption) | assumption)
      obtain ⟨ad183, e183, hx183_0⟩ := Kd.at_int HR0.out x4_1 p183 q183
      cases e183
      replace p183 := eq_true p183
      replace q183 := eq_true q183
      go_wp2
      refine Cu.handed k1 (by have := HK1.out; omega) (by assumption) ?_ (by kernel_rfl) (by kernel_rfl)
      try dsimp only [Cu.pick, Cu.rep, Cu.nth]
      exact ⟨(Go.bits .xor .u8 x3_1 (rd l0 x4_1)), (wrap64 (x4_1 + 1)), Sq.e, Sq.e, H', ⟨by have := HK1.out; omega⟩, by repeat (first | exact Drawn0.refl _ | apply Drawn0.step)⟩
     ·rw [if_neg c4] at H
      exact absurd H (by simp)
    ·rw [if_neg c3] at H
     exact absurd H (by simp)
   ·rw [if_neg c2] at H
    have c2b0 : decide (x4_1 < 7) = false := decide_eq_false c2
    clear c2
    obtain rfl := Option.some.inj H
    go_wp2
    go_ret
    exact ⟨by first | rfl | (simp; done) | (simp [*]; done), by repeat (first | exact Drawn0.refl _ | apply Drawn0.step)⟩

/-! ### gimbalref9_good: function 39 -/
def gimbalref9_good.j0 : Nat → Bool → Int → Int → Bool → Int → Int → Int → Bool → Int → Int → Int → List Int → Option (Bool)
 | 0, _, _, _, _, _, _, _, _, _, _, _, _ => none
 | k + 1, x17, x185000, x185001, x185002, x185003, x185004, x185005, x185006, x185007, x185008, x187000, x187001 => if x17 = true then (some false) else (if x185004 = 1 then (if 0 < (x187001.length : Int) then (some ((wrap64 (rd x187001 0)) == x185001)) else (none)) else (if x185004 = 4 then (if 0 < (x187001.length : Int) then (some (decide ((wrap64 (rd x187001 0)) ≤ 16))) else (none)) else (some true)))
def gimbalref9_good.f (k : Nat) (a0_0 : Int) (a0_1 : Int) (a0_2 : Bool) (a0_3 : Int) (a0_4 : Int) (a0_5 : Int) (a0_6 : Bool) (a0_7 : Int) (a0_8 : Int) (a1_0 : Int) (a1_1 : Int) (l1_2 : List Int) (a1_3 : Int) (a2_0 : Int) (l2_1 : List Int) : Option (Bool) := if a2_0 = 1 then (gimbalref9_good.j0 k ((l2_1.length : Int) != a1_3) a0_0 a0_1 a0_2 a0_3 a0_4 a0_5 a0_6 a0_7 a0_8 a2_0 l2_1) else (gimbalref9_good.j0 k true a0_0 a0_1 a0_2 a0_3 a0_4 a0_5 a0_6 a0_7 a0_8 a2_0 l2_1)
theorem gimbalref9_good.mono_l : ∀ k, (∀ y0 y1 y2 y3 y4 y5 y6 y7 y8 y9 y10 y11, LeO (gimbalref9_good.j0 k y0 y1 y2 y3 y4 y5 y6 y7 y8 y9 y10 y11) (gimbalref9_good.j0 (k + 1) y0 y1 y2 y3 y4 y5 y6 y7 y8 y9 y10 y11))
 | 0 => fun _ _ _ _ _ _ _ _ _ _ _ _ r h => by simp [gimbalref9_good.j0] at h
 | k + 1 => by
  have ih0 := gimbalref9_good.mono_l k
  ·intro y0 y1 y2 y3 y4 y5 y6 y7 y8 y9 y10 y11
   unfold gimbalref9_good.j0
   repeat' first
   | (with_reducible exact ih0 _ _ _ _ _ _ _ _ _ _ _ _)
   | (with_reducible exact LeO.refl _)
   | (with_reducible exact LeO.none _)
   | (with_reducible refine LeO.ite ?_ ?_)
   | (with_reducible refine LeO.bind ?_ (fun _ => ?_))
   | exact ih0 _ _ _ _ _ _ _ _ _ _ _ _
   | exact LeO.none _
   | refine LeO.ite ?_ ?_
   | refine LeO.bind ?_ (fun _ => ?_)
theorem gimbalref9_good.mono : ∀ a0 a1 a2 a3 a4 a5 a6 a7 a8 a9 a10 a11 a12 a13 a14 k, LeO (gimbalref9_good.f k a0 a1 a2 a3 a4 a5 a6 a7 a8 a9 a10 a11 a12 a13 a14) (gimbalref9_good.f (k + 1) a0 a1 a2 a3 a4 a5 a6 a7 a8 a9 a10 a11 a12 a13 a14) := by
 intro a0 a1 a2 a3 a4 a5 a6 a7 a8 a9 a10 a11 a12 a13 a14 k
 have ih0 := gimbalref9_good.mono_l k
 unfold gimbalref9_good.f
 repeat' first
   | (with_reducible exact ih0 _ _ _ _ _ _ _ _ _ _ _ _)
   | (with_reducible exact LeO.refl _)
   | (with_reducible exact LeO.none _)
   | (with_reducible refine LeO.ite ?_ ?_)
   | (with_reducible refine LeO.bind ?_ (fun _ => ?_))
   | exact ih0 _ _ _ _ _ _ _ _ _ _ _ _
   | exact LeO.none _
   | refine LeO.ite ?_ ?_
   | refine LeO.bind ?_ (fun _ => ?_)
set_option maxHeartbeats 8000000 in
set_option maxRecDepth 100000 in
theorem gimbalref9_good.calls (k : Nat) (a0_0 : Int) (a0_1 : Int) (a0_2 : Bool) (a0_3 : Int) (a0_4 : Int) (a0_5 : Int) (a0_6 : Bool) (a0_7 : Int) (a0_8 : Int) (a1_0 : Int) (a1_1 : Int) (A1_2 : Option Addr) (c1_2 : Nat) (l1_2 : List Int) (a1_3 : Int) (a2_0 : Int) (A2_1 : Option Addr) (c2_1 : Nat) (l2_1 : List Int) (r : Bool) (w : World) (hr1_2 : Kd.C (Kd.int .u8) w A1_2 l1_2.length l1_2) (hc1_2 : l1_2.length ≤ c1_2) (hr2_1 : Kd.C (Kd.int .u8) w A2_1 l2_1.length l2_1) (hc2_1 : l2_1.length ≤ c2_1) (h : gimbalref9_good.f k a0_0 a0_1 a0_2 a0_3 a0_4 a0_5 a0_6 a0_7 a0_8 a1_0 a1_1 l1_2 a1_3 a2_0 l2_1 = some r) :
  Calls Try.prog 39 #[.agg #[.int .i64 a0_0, .int .i64 a0_1, .bool a0_2, .int .i64 a0_3, .int .i64 a0_4, .int .i64 a0_5, .bool a0_6, .int .i64 a0_7, .int .i64 a0_8], .agg #[.int .i64 a1_0, .int .i64 a1_1, .slice A1_2 l1_2.length c1_2, .int .i64 a1_3], .agg #[.int .i64 a2_0, .slice A2_1 l2_1.length c2_1]] w fun e w' => e = .returned (.bool r) ∧ Below w.heap.size w w' := by
 have hu24 := Try.underlying24
 have hu31 := Try.underlying31
 have hu27 := Try.underlying27
 have HR1_2 := Aside0.mk hr1_2
 have HC1_2 := Aside0.mk hc1_2
 clear hr1_2 hc1_2
 have HR2_1 := Aside0.mk hr2_1
 have HC2_1 := Aside0.mk hc2_1
 clear hr2_1 hc2_1
 have HB := Aside0.mk (Below.refl w.heap.size w)
 have H : (if a2_0 = 1 then (gimbalref9_good.j0 k ((l2_1.length : Int) != a1_3) a0_0 a0_1 a0_2 a0_3 a0_4 a0_5 a0_6 a0_7 a0_8 a2_0 l2_1) else (gimbalref9_good.j0 k true a0_0 a0_1 a0_2 a0_3 a0_4 a0_5 a0_6 a0_7 a0_8 a2_0 l2_1)) = some r := h
 clear h
 have HC4 := Aside0.mk H
 clear H
 go_enter Try.func39, Try.ntmps39
 go_upto_region 1 with (first | ((with_reducible refine gate_dst (N := 3) rfl ?_); (try (refine gate_guard (by rfl) ?_; dsimp only)); refine box_event ?hg (N := 3) ?hd (cs := #[.int .i64 a0_0, .int .i64 a0_1, .bool a0_2, .int .i64 a0_3, .int .i64 a0_4, .int .i64 a0_5, .bool a0_6, .int .i64 a0_7, .int .i64 a0_8]) (t := 24) ?hr ?_; (case hd => rfl); (case hg => rfl); (case hr => first | (go_simp; done) | (go_simp; rfl)); intro gb184 hg w5 hbox hb; have BK184 := Aside0.mk hbox; have GW184 := Sq.ge hg HB; have GE184 := Sq.ge hg HB; replace HB := Sq.sw HB hb; clear hb hbox hg) | ((with_reducible refine gate_dst (N := 4) rfl ?_); (try (refine gate_guard (by rfl) ?_; dsimp only)); refine box_event ?hg (N := 4) ?hd (cs := #[.int .i64 a1_0, .int .i64 a1_1, .slice A1_2 l1_2.length c1_2, .int .i64 a1_3]) (t := 31) ?hr ?_; (case hd => rfl); (case hg => rfl); (case hr => first | (go_simp; done) | (go_simp; rfl)); intro gb185 hg w6 hbox hb; have BK185 := Aside0.mk hbox; have GW185 := Sq.ge hg HB; have GE185 := Sq.ge hg HB; obtain ⟨NB184_185, NB185_184⟩ := Sq.np hg BK184; replace BK184 := Sq.sb BK184 hb; replace HB := Sq.sw HB hb; clear hb hbox hg) | ((with_reducible refine gate_dst (N := 5) rfl ?_); (try (refine gate_guard (by rfl) ?_; dsimp only)); refine box_event ?hg (N := 5) ?hd (cs := #[.int .i64 a2_0, .slice A2_1 l2_1.length c2_1]) (t := 27) ?hr ?_; (case hd => rfl); (case hg => rfl); (case hr => first | (go_simp; done) | (go_simp; rfl)); intro gb186 hg w7 hbox hb; have BK186 := Aside0.mk hbox; have GW186 := Sq.ge hg HB; have GE186 := Sq.ge hg HB; obtain ⟨NB184_186, NB186_184⟩ := Sq.np hg BK184; obtain ⟨NB185_186, NB186_185⟩ := Sq.np hg BK185; replace BK184 := Sq.sb BK184 hb; replace BK185 := Sq.sb BK185 hb; replace HB := Sq.sw HB hb; clear hb hbox hg))
 repeat (go_quiet (first | ((with_reducible refine gate_dst (N := 3) rfl ?_); (try (refine gate_guard (by rfl) ?_; dsimp only)); refine box_event ?hg (N := 3) ?hd (cs := #[.int .i64 a0_0, .int .i64 a0_1, .bool a0_2, .int .i64 a0_3, .int .i64 a0_4, .int .i64 a0_5, .bool a0_6, .int .i64 a0_7, .int .i64 a0_8]) (t := 24) ?hr ?_; (case hd => rfl); (case hg => rfl); (case hr => first | (go_simp; done) | (go_simp; rfl)); intro gb184 hg w5 hbox hb; have BK184 := Aside0.mk hbox; have GW184 := Sq.ge hg HB; have GE184 := Sq.ge hg HB; replace HB := Sq.sw HB hb; clear hb hbox hg) | ((with_reducible refine gate_dst (N := 4) rfl ?_); (try (refine gate_guard (by rfl) ?_; dsimp only)); refine box_event ?hg (N := 4) ?hd (cs := #[.int .i64 a1_0, .int .i64 a1_1, .slice A1_2 l1_2.length c1_2, .int .i64 a1_3]) (t := 31) ?hr ?_; (case hd => rfl); (case hg => rfl); (case hr => first | (go_simp; done) | (go_simp; rfl)); intro gb185 hg w6 hbox hb; have BK185 := Aside0.mk hbox; have GW185 := Sq.ge hg HB; have GE185 := Sq.ge hg HB; obtain ⟨NB184_185, NB185_184⟩ := Sq.np hg BK184; replace BK184 := Sq.sb BK184 hb; replace HB := Sq.sw HB hb; clear hb hbox hg) | ((with_reducible refine gate_dst (N := 5) rfl ?_); (try (refine gate_guard (by rfl) ?_; dsimp only)); refine box_event ?hg (N := 5) ?hd (cs := #[.int .i64 a2_0, .slice A2_1 l2_1.length c2_1]) (t := 27) ?hr ?_; (case hd => rfl); (case hg => rfl); (case hr => first | (go_simp; done) | (go_simp; rfl)); intro gb186 hg w7 hbox hb; have BK186 := Aside0.mk hbox; have GW186 := Sq.ge hg HB; have GE186 := Sq.ge hg HB; obtain ⟨NB184_186, NB186_184⟩ := Sq.np hg BK184; obtain ⟨NB185_186, NB186_185⟩ := Sq.np hg BK185; replace BK184 := Sq.sb BK184 hb; replace BK185 := Sq.sb BK185 hb; replace HB := Sq.sw HB hb; clear hb hbox hg)); go_upto_region 1 with (first | ((with_reducible refine gate_dst (N := 3) rfl ?_); (try (refine gate_guard (by rfl) ?_; dsimp only)); refine box_event ?hg (N := 3) ?hd (cs := #[.int .i64 a0_0, .int .i64 a0_1, .bool a0_2, .int .i64 a0_3, .int .i64 a0_4, .int .i64 a0_5, .bool a0_6, .int .i64 a0_7, .int .i64 a0_8]) (t := 24) ?hr ?_; (case hd => rfl); (case hg => rfl); (case hr => first | (go_simp; done) | (go_simp; rfl)); intro gb184 hg w5 hbox hb; have BK184 := Aside0.mk hbox; have GW184 := Sq.ge hg HB; have GE184 := Sq.ge hg HB; replace HB := Sq.sw HB hb; clear hb hbox hg) | ((with_reducible refine gate_dst (N := 4) rfl ?_); (try (refine gate_guard (by rfl) ?_; dsimp only)); refine box_event ?hg (N := 4) ?hd (cs := #[.int .i64 a1_0, .int .i64 a1_1, .slice A1_2 l1_2.length c1_2, .int .i64 a1_3]) (t := 31) ?hr ?_; (case hd => rfl); (case hg => rfl); (case hr => first | (go_simp; done) | (go_simp; rfl)); intro gb185 hg w6 hbox hb; have BK185 := Aside0.mk hbox; have GW185 := Sq.ge hg HB; have GE185 := Sq.ge hg HB; obtain ⟨NB184_185, NB185_184⟩ := Sq.np hg BK184; replace BK184 := Sq.sb BK184 hb; replace HB := Sq.sw HB hb; clear hb hbox hg) | ((with_reducible refine gate_dst (N := 5) rfl ?_); (try (refine gate_guard (by rfl) ?_; dsimp only)); refine box_event ?hg (N := 5) ?hd (cs := #[.int .i64 a2_0, .slice A2_1 l2_1.length c2_1]) (t := 27) ?hr ?_; (case hd => rfl); (case hg => rfl); (case hr => first | (go_simp; done) | (go_simp; rfl)); intro gb186 hg w7 hbox hb; have BK186 := Aside0.mk hbox; have GW186 := Sq.ge hg HB; have GE186 := Sq.ge hg HB; obtain ⟨NB184_186, NB186_184⟩ := Sq.np hg BK184; obtain ⟨NB185_186, NB186_185⟩ := Sq.np hg BK185; replace BK184 := Sq.sb BK184 hb; replace BK185 := Sq.sb BK185 hb; replace HB := Sq.sw HB hb; clear hb hbox hg)))
 (try simp only [Act.put, List.setIfInBounds_toArray, List.set_cons_zero, List.set_cons_succ])
 refine Cu.wp_cut (Cu.rep 7 Cu.f (Cu.rep 12 Cu.t (Cu.rep 2 Cu.f (Cu.rep 9 Cu.t (Cu.rep 1 Cu.f (Cu.rep 7 Cu.t [])))))) 28 (fun us_ wc => ∃ (kq : Nat) (x17_3 : Bool), (Cu.nth us_ 10) = .bool x17_3 ∧ Aside0 (gimbalref9_good.j0 kq x17_3 a0_0 a0_1 a0_2 a0_3 a0_4 a0_5 a0_6 a0_7 a0_8 a2_0 l2_1 = some r) ∧ Aside0 (kq ≤ k) ∧ Aside0 (wc.heap[gb184]? = some (.cells #[.int .i64 a0_0, .int .i64 a0_1, .bool a0_2, .int .i64 a0_3, .int .i64 a0_4, .int .i64 a0_5, .bool a0_6, .int .i64 a0_7, .int .i64 a0_8] 24 (0, 0))) ∧ Aside0 (wc.heap[gb185]? = some (.cells #[.int .i64 a1_0, .int .i64 a1_1, (.slice A1_2 l1_2.length c1_2), .int .i64 a1_3] 31 (0, 0))) ∧ Aside0 (wc.heap[gb186]? = some (.cells #[.int .i64 a2_0, (.slice A2_1 l2_1.length c2_1)] 27 (0, 0))) ∧ Aside0 (Below w.heap.size w wc)) ?_ ?_
 ·
  intro _ _ _ _
  have H := HC4.out
  clear HC4
  by_cases c8 : a2_0 = 1
  ·rw [if_pos c8] at H
   have c8b0 : (a2_0 == 1) = true := beq_iff_eq.mpr c8
   have c8b1 : (a2_0 != 1) = false := bne_eq_false_iff_eq.mpr c8
   clear c8
   (first | rw [c8b0] | (simp only [i64_w, i32_w]; rw [c8b0]) | skip)
   have H' := Aside0.mk H
   clear H; have b9 := NB186_184.out; have d9 := NB184_186.out; have b10 := NB186_185.out; have d10 := NB185_186.out
   obtain ⟨z11_0, z11_1⟩ := Sq.c2 BK186.out
   obtain ⟨y11_0, y11_1⟩ := Sq.f2 BK186.out
   have b12 := NB185_184.out; have d12 := NB184_185.out
   obtain ⟨z13_0, z13_1, z13_2, z13_3⟩ := Sq.c4 BK185.out
   obtain ⟨y13_0, y13_1, y13_2, y13_3⟩ := Sq.f4 BK185.out
   go_wp2
   repeat (go_quiet (fail); try go_wp2)
   refine Cu.meet (by assumption) ?_ (by kernel_rfl) (by kernel_rfl)
   try dsimp only [Cu.pick, Cu.rep, Cu.nth]
   exact ⟨_, (((l2_1.length : Int) != a1_3)), Sq.e, H', ⟨by first | omega | exact Nat.le_refl _⟩, ⟨Sq.b BK184.out⟩, ⟨Sq.b BK185.out⟩, ⟨Sq.b BK186.out⟩, ⟨Sq.w HB.out⟩⟩
  ·rw [if_neg c8] at H
   have c8b0 : (a2_0 == 1) = false := beq_eq_false_iff_ne.mpr c8
   have c8b1 : (a2_0 != 1) = true := bne_iff_ne.mpr c8
   (first | rw [c8b0] | (simp only [i64_w, i32_w]; rw [c8b0]) | skip)
   have H' := Aside0.mk H
   clear H; have b14 := NB186_184.out; have d14 := NB184_186.out; have b15 := NB186_185.out; have d15 := NB185_186.out
   obtain ⟨z16_0, z16_1⟩ := Sq.c2 BK186.out
   obtain ⟨y16_0, y16_1⟩ := Sq.f2 BK186.out
   go_wp2
   repeat (go_quiet (fail); try go_wp2)
   refine Cu.meet (by assumption) ?_ (by kernel_rfl) (by kernel_rfl)
   try dsimp only [Cu.pick, Cu.rep, Cu.nth]
   exact ⟨_, (true), Sq.e, H', ⟨by first | omega | exact Nat.le_refl _⟩, ⟨Sq.b BK184.out⟩, ⟨Sq.b BK185.out⟩, ⟨Sq.b BK186.out⟩, ⟨Sq.w HB.out⟩⟩
 ·
  intro wc u7 u8 u9 u10 u11 u12 u13 u14 u15 u16 u17 u18 u21 u22 u23 u24 u25 u26 u27 u28 u29 u31 u32 u33 u34 u35 u36 u37
  try dsimp only [Cu.over, Cu.rep, Cu.nth]
  intro hcut
  clear HC4
  obtain ⟨kq, x17_3, rfl, HA, HJ3, BK184, BK185, BK186, HB⟩ := hcut
  cases kq with
  | zero => exact absurd HA.out (by simp [gimbalref9_good.j0])
  | succ kj3 =>
   have H := HA.out
   clear HA
   simp only [gimbalref9_good.j0] at H
   by_cases c17 : x17_3 = true
   ·subst c17
    have H1 : (some false) = some r := by rw [if_pos rfl] at H; exact H
    clear H
    have H := H1
    clear H1
    obtain rfl := Option.some.inj H
    go_wp2
    repeat (go_quiet (fail); try go_wp2)
    go_ret
    exact ⟨by first | rfl | (simp [errW_none, errW_some] <;> rfl) | (simp [*, errW_none, errW_some] <;> rfl), Sq.w HB.out⟩
   ·replace c17 := Bool.eq_false_iff.mpr c17
    subst c17
    have H1 : (if a0_4 = 1 then (if 0 < (l2_1.length : Int) then (some ((wrap64 (rd l2_1 0)) == a0_1)) else (none)) else (if a0_4 = 4 then (if 0 < (l2_1.length : Int) then (some (decide ((wrap64 (rd l2_1 0)) ≤ 16))) else (none)) else (some true))) = some r := by rw [if_neg (show ¬ (false = true) by decide)] at H; exact H
    clear H
    have H := H1
    clear H1
    by_cases c18 : a0_4 = 1
    ·rw [if_pos c18] at H
     have c18b0 : (a0_4 == 1) = true := beq_iff_eq.mpr c18
     have c18b1 : (a0_4 != 1) = false := bne_eq_false_iff_eq.mpr c18
     clear c18
     by_cases c19 : 0 < (l2_1.length : Int)
     ·rw [if_pos c19] at H
      have c19b0 : decide (0 < (l2_1.length : Int)) = true := decide_eq_true c19
      have c19b1 : decide (0 < l2_1.length) = true := decide_eq_true (by omega)
      clear c19
      obtain rfl := Option.some.inj H
      have b20 := NB184_185.out; have d20 := NB185_184.out; have b21 := NB184_186.out; have d21 := NB186_184.out
      obtain ⟨z22_0, z22_1, z22_2, z22_3, z22_4, z22_5, z22_6, z22_7, z22_8⟩ := Sq.c9 BK184.out
      obtain ⟨y22_0, y22_1, y22_2, y22_3, y22_4, y22_5, y22_6, y22_7, y22_8⟩ := Sq.f9 BK184.out
      have b23 := NB186_185.out; have d23 := NB185_186.out
      obtain ⟨z24_0, z24_1⟩ := Sq.c2 BK186.out
      obtain ⟨y24_0, y24_1⟩ := Sq.f2 BK186.out
      have p187 : 0 ≤ (0 : Int) := (by omega)
      have q187 : 0 < (l2_1.length : Int) := of_decide_eq_true (by first | (with_reducible assumption) | assumption)
      obtain ⟨ad187, e187, hx187_0⟩ := Kd.at_int HR2_1.out 0 p187 q187
      cases e187
      have qi187 : (0 < l2_1.length) = True := eq_true (by omega)
      (try rw [show ((0 : Int)).toNat = 0 from rfl] at hx187_0)
      (try rw [Addr.add_zero'] at hx187_0)
      replace hx187_0 := (HB.out.cell (World.block_lt_of_cell? w _ hx187_0)).trans hx187_0
      replace p187 := eq_true p187
      replace q187 := eq_true q187
      go_wp2
      repeat (go_quiet (fail); try go_wp2)
      go_ret
      exact ⟨by first | rfl | (simp [errW_none, errW_some] <;> rfl) | (simp [*, errW_none, errW_some] <;> rfl), Sq.w HB.out⟩
     ·rw [if_neg c19] at H
      exact absurd H (by simp)
    ·rw [if_neg c18] at H
     have c18b0 : (a0_4 == 1) = false := beq_eq_false_iff_ne.mpr c18
     have c18b1 : (a0_4 != 1) = true := bne_iff_ne.mpr c18
     by_cases c25 : a0_4 = 4
     ·rw [if_pos c25] at H
      have c25b0 : (a0_4 == 4) = true := beq_iff_eq.mpr c25
      have c25b1 : (a0_4 != 4) = false := bne_eq_false_iff_eq.mpr c25
      clear c25
      by_cases c26 : 0 < (l2_1.length : Int)
      ·rw [if_pos c26] at H
       have c26b0 : decide (0 < (l2_1.length : Int)) = true := decide_eq_true c26
       have c26b1 : decide (0 < l2_1.length) = true := decide_eq_true (by omega)
       clear c26
       obtain rfl := Option.some.inj H
       have b27 := NB184_185.out; have d27 := NB185_184.out; have b28 := NB184_186.out; have d28 := NB186_184.out
       obtain ⟨z29_0, z29_1, z29_2, z29_3, z29_4, z29_5, z29_6, z29_7, z29_8⟩ := Sq.c9 BK184.out
       obtain ⟨y29_0, y29_1, y29_2, y29_3, y29_4, y29_5, y29_6, y29_7, y29_8⟩ := Sq.f9 BK184.out
       have b30 := NB186_185.out; have d30 := NB185_186.out
       obtain ⟨z31_0, z31_1⟩ := Sq.c2 BK186.out
       obtain ⟨y31_0, y31_1⟩ := Sq.f2 BK186.out
       have p188 : 0 ≤ (0 : Int) := (by omega)
       have q188 : 0 < (l2_1.length : Int) := of_decide_eq_true (by first | (with_reducible assumption) | assumption)
       obtain ⟨ad188, e188, hx188_0⟩ := Kd.at_int HR2_1.out 0 p188 q188
       cases e188
       have qi188 : (0 < l2_1.length) = True := eq_true (by omega)
       (try rw [show ((0 : Int)).toNat = 0 from rfl] at hx188_0)
       (try rw [Addr.add_zero'] at hx188_0)
       replace hx188_0 := (HB.out.cell (World.block_lt_of_cell? w _ hx188_0)).trans hx188_0
       replace p188 := eq_true p188
       replace q188 := eq_true q188
       go_wp2
       repeat (go_quiet (fail); try go_wp2)
       go_ret
       exact ⟨by first | rfl | (simp [errW_none, errW_some] <;> rfl) | (simp [*, errW_none, errW_some] <;> rfl), Sq.w HB.out⟩
      ·rw [if_neg c26] at H
       exact absurd H (by simp)
     ·rw [if_neg c25] at H
      have c25b0 : (a0_4 == 4) = false := beq_eq_false_iff_ne.mpr c25
      have c25b1 : (a0_4 != 4) = true := bne_iff_ne.mpr c25
      obtain rfl := Option.some.inj H
      have b32 := NB184_185.out; have d32 := NB185_184.out; have b33 := NB184_186.out; have d33 := NB186_184.out
      obtain ⟨z34_0, z34_1, z34_2, z34_3, z34_4, z34_5, z34_6, z34_7, z34_8⟩ := Sq.c9 BK184.out
      obtain ⟨y34_0, y34_1, y34_2, y34_3, y34_4, y34_5, y34_6, y34_7, y34_8⟩ := Sq.f9 BK184.out
      go_wp2
      repeat (go_quiet (fail); try go_wp2)
      go_ret
      exact ⟨by first | rfl | (simp [errW_none, errW_some] <;> rfl) | (simp [*, errW_none, errW_some] <;> rfl), Sq.w HB.out⟩

/-! ### gimbalref9_bad: function 40 -/
def gimbalref9_bad.j0 : Nat → Bool → Int → Int → Bool → Int → Int → Int → Bool → Int → Int → Option (Int × Int × Bool × Int × Int × Int × Bool × Int × Int × (List (S55)) × Bool)
 | 0, _, _, _, _, _, _, _, _, _, _ => none
 | k + 1, x16, x190000, x190001, x190002, x190003, x190004, x190005, x190006, x190007, x190008 => if x16 = true then (some (x190000, x190001, x190002, x190003, x190004, x190005, x190006, x190007, x190008, ([] : List (S55)), false)) else (if x190004 = 7 then (some (x190000, x190001, x190002, x190003, 8, 0, x190006, 0, x190008, ([] : List (S55)), true)) else (if x190006 = true then (some (x190000, x190001, x190002, x190003, 8, 0, x190006, 0, x190008, ([] : List (S55)), true)) else (some (x190000, x190001, x190002, x190003, 7, 0, x190006, 0, x190008, ([] : List (S55)), false))))
def gimbalref9_bad.f (k : Nat) (a0_0 : Int) (a0_1 : Int) (a0_2 : Bool) (a0_3 : Int) (a0_4 : Int) (a0_5 : Int) (a0_6 : Bool) (a0_7 : Int) (a0_8 : Int) : Option (Int × Int × Bool × Int × Int × Int × Bool × Int × Int × (List (S55)) × Bool) := if a0_4 = 7 then (gimbalref9_bad.j0 k false a0_0 a0_1 a0_2 a0_3 a0_4 (wrap64 (a0_5 + 1)) a0_6 a0_7 a0_8) else (gimbalref9_bad.j0 k (decide ((wrap64 (a0_5 + 1)) < 3)) a0_0 a0_1 a0_2 a0_3 a0_4 (wrap64 (a0_5 + 1)) a0_6 a0_7 a0_8)
theorem gimbalref9_bad.mono_l : ∀ k, (∀ y0 y1 y2 y3 y4 y5 y6 y7 y8 y9, LeO (gimbalref9_bad.j0 k y0 y1 y2 y3 y4 y5 y6 y7 y8 y9) (gimbalref9_bad.j0 (k + 1) y0 y1 y2 y3 y4 y5 y6 y7 y8 y9))
 | 0 => fun _ _ _ _ _ _ _ _ _ _ r h => by simp [gimbalref9_bad.j0] at h
 | k + 1 => by
  have ih0 := gimbalref9_bad.mono_l k
  ·intro y0 y1 y2 y3 y4 y5 y6 y7 y8 y9
   unfold gimbalref9_bad.j0
   repeat' first
   | (with_reducible exact ih0 _ _ _ _ _ _ _ _ _ _)
   | (with_reducible exact LeO.refl _)
   | (with_reducible exact LeO.none _)
   | (with_reducible refine LeO.ite ?_ ?_)
   | (with_reducible refine LeO.bind ?_ (fun _ => ?_))
   | exact ih0 _ _ _ _ _ _ _ _ _ _
   | exact LeO.none _
   | refine LeO.ite ?_ ?_
   | refine LeO.bind ?_ (fun _ => ?_)
theorem gimbalref9_bad.mono : ∀ a0 a1 a2 a3 a4 a5 a6 a7 a8 k, LeO (gimbalref9_bad.f k a0 a1 a2 a3 a4 a5 a6 a7 a8) (gimbalref9_bad.f (k + 1) a0 a1 a2 a3 a4 a5 a6 a7 a8) := by
 intro a0 a1 a2 a3 a4 a5 a6 a7 a8 k
 have ih0 := gimbalref9_bad.mono_l k
 unfold gimbalref9_bad.f
 repeat' first
   | (with_reducible exact ih0 _ _ _ _ _ _ _ _ _ _)
   | (with_reducible exact LeO.refl _)
   | (with_reducible exact LeO.none _)
   | (with_reducible refine LeO.ite ?_ ?_)
   | (with_reducible refine LeO.bind ?_ (fun _ => ?_))
   | exact ih0 _ _ _ _ _ _ _ _ _ _
   | exact LeO.none _
   | refine LeO.ite ?_ ?_
   | refine LeO.bind ?_ (fun _ => ?_)
set_option maxHeartbeats 8000000 in
set_option maxRecDepth 100000 in
theorem gimbalref9_bad.calls (k : Nat) (a0_0 : Int) (a0_1 : Int) (a0_2 : Bool) (a0_3 : Int) (a0_4 : Int) (a0_5 : Int) (a0_6 : Bool) (a0_7 : Int) (a0_8 : Int) (r1 : Int) (r2 : Int) (r3 : Bool) (r4 : Int) (r5 : Int) (r6 : Int) (r7 : Bool) (r8 : Int) (r9 : Int) (r10 : List (S55)) (r11 : Bool) (w : World) (h : gimbalref9_bad.f k a0_0 a0_1 a0_2 a0_3 a0_4 a0_5 a0_6 a0_7 a0_8 = some (r1, r2, r3, r4, r5, r6, r7, r8, r9, r10, r11)) :
  Calls Try.prog 40 #[.agg #[.int .i64 a0_0, .int .i64 a0_1, .bool a0_2, .int .i64 a0_3, .int .i64 a0_4, .int .i64 a0_5, .bool a0_6, .int .i64 a0_7, .int .i64 a0_8]] w fun e w' => ∃ v9_ : Value, e = .returned (.tuple #[.agg #[.int .i64 r1, .int .i64 r2, .bool r3, .int .i64 r4, .int .i64 r5, .int .i64 r6, .bool r7, .int .i64 r8, .int .i64 r9], v9_, .bool r11]) ∧ Kd.R k55 55 w' w.heap.size (fun _ => True) v9_ r10 ∧ Below w.heap.size w w' := by
 have hu24 := Try.underlying24
 have HB := Aside0.mk (Below.refl w.heap.size w)
 have H : (if a0_4 = 7 then (gimbalref9_bad.j0 k false a0_0 a0_1 a0_2 a0_3 a0_4 (wrap64 (a0_5 + 1)) a0_6 a0_7 a0_8) else (gimbalref9_bad.j0 k (decide ((wrap64 (a0_5 + 1)) < 3)) a0_0 a0_1 a0_2 a0_3 a0_4 (wrap64 (a0_5 + 1)) a0_6 a0_7 a0_8)) = some (r1, r2, r3, r4, r5, r6, r7, r8, r9, r10, r11) := h
 clear h
 have HC2 := Aside0.mk H
 clear H
 go_enter Try.func40, Try.ntmps40
 go_upto_region 2 with (first | ((with_reducible refine gate_dst (N := 1) rfl ?_); refine box_event ?hg (N := 1) ?hd (cs := #[.int .i64 a0_0, .int .i64 a0_1, .bool a0_2, .int .i64 a0_3, .int .i64 a0_4, .int .i64 a0_5, .bool a0_6, .int .i64 a0_7, .int .i64 a0_8]) (t := 24) ?hr ?_; (case hd => rfl); (case hg => rfl); (case hr => first | (go_simp; done) | (go_simp; rfl)); intro gb189 hg w3 hbox hb; have BK189 := Aside0.mk hbox; have GW189 := Sq.ge hg HB; have GE189 := Sq.ge hg HB; replace HB := Sq.sw HB hb; clear hb hbox hg) | ((with_reducible refine gate_dst (N := 2) rfl ?_); refine box_event ?hg (N := 2) ?hd (cs := #[.int .i64 0, .int .i64 0, .bool false, .int .i64 0, .int .i64 0, .int .i64 0, .bool false, .int .i64 0, .int .i64 0]) (t := 24) ?hr ?_; (case hd => rfl); (case hg => rfl); (case hr => first | (go_simp; done) | (go_simp; rfl)); intro gb190 hg w4 hbox hb; have BK190 := Aside0.mk hbox; have GW190 := Sq.ge hg HB; have GE190 := Sq.ge hg HB; obtain ⟨NB189_190, NB190_189⟩ := Sq.np hg BK189; replace BK189 := Sq.sb BK189 hb; replace HB := Sq.sw HB hb; clear hb hbox hg; have b5 := NB189_190.out; have d5 := NB190_189.out; obtain ⟨z6_0, z6_1, z6_2, z6_3, z6_4, z6_5, z6_6, z6_7, z6_8⟩ := Sq.c9 BK189.out; obtain ⟨y6_0, y6_1, y6_2, y6_3, y6_4, y6_5, y6_6, y6_7, y6_8⟩ := Sq.f9 BK189.out))
 (try simp only [Act.put, List.setIfInBounds_toArray, List.set_cons_zero, List.set_cons_succ])
 refine Cu.wp_cut (Cu.rep 5 Cu.f (Cu.rep 26 Cu.t [])) 26 (fun us_ wc => ∃ (kq : Nat) (x16_1 : Bool), (Cu.nth us_ 11) = .bool x16_1 ∧ Aside0 (gimbalref9_bad.j0 kq x16_1 a0_0 a0_1 a0_2 a0_3 a0_4 (wrap64 (a0_5 + 1)) a0_6 a0_7 a0_8 = some (r1, r2, r3, r4, r5, r6, r7, r8, r9, r10, r11)) ∧ Aside0 (kq ≤ k) ∧ Aside0 (wc.heap[gb189]? = some (.cells #[.int .i64 a0_0, .int .i64 a0_1, .bool a0_2, .int .i64 a0_3, .int .i64 a0_4, .int .i64 (wrap64 (a0_5 + 1)), .bool a0_6, .int .i64 a0_7, .int .i64 a0_8] 24 (0, 0))) ∧ Aside0 (wc.heap[gb190]? = some (.cells #[.int .i64 0, .int .i64 0, .bool false, .int .i64 0, .int .i64 0, .int .i64 0, .bool false, .int .i64 0, .int .i64 0] 24 (0, 0))) ∧ Aside0 (Below w.heap.size w wc)) ?_ ?_
 ·
  intro _ _ _ _
  have H := HC2.out
  clear HC2
  by_cases c7 : a0_4 = 7
  ·rw [if_pos c7] at H
   have c7b0 : (a0_4 == 7) = true := beq_iff_eq.mpr c7
   have c7b1 : (a0_4 != 7) = false := bne_eq_false_iff_eq.mpr c7
   clear c7
   (first | rw [c7b0] | (simp only [i64_w, i32_w]; rw [c7b0]) | skip)
   have H' := Aside0.mk H
   clear H; have b8 := NB189_190.out; have d8 := NB190_189.out
   obtain ⟨z9_0, z9_1, z9_2, z9_3, z9_4, z9_5, z9_6, z9_7, z9_8⟩ := Sq.c9 BK189.out
   obtain ⟨y9_0, y9_1, y9_2, y9_3, y9_4, y9_5, y9_6, y9_7, y9_8⟩ := Sq.f9 BK189.out
   go_wp2
   refine Cu.meet (by assumption) ?_ (by kernel_rfl) (by kernel_rfl)
   try dsimp only [Cu.pick, Cu.rep, Cu.nth]
   exact ⟨_, (false), Sq.e, H', ⟨by first | omega | exact Nat.le_refl _⟩, ⟨Sq.B BK189.out⟩, ⟨Sq.F BK190.out⟩, ⟨Sq.w HB.out⟩⟩
  ·rw [if_neg c7] at H
   have c7b0 : (a0_4 == 7) = false := beq_eq_false_iff_ne.mpr c7
   have c7b1 : (a0_4 != 7) = true := bne_iff_ne.mpr c7
   (first | rw [c7b0] | (simp only [i64_w, i32_w]; rw [c7b0]) | skip)
   have H' := Aside0.mk H
   clear H; have b10 := NB189_190.out; have d10 := NB190_189.out
   obtain ⟨z11_0, z11_1, z11_2, z11_3, z11_4, z11_5, z11_6, z11_7, z11_8⟩ := Sq.c9 BK189.out
   obtain ⟨y11_0, y11_1, y11_2, y11_3, y11_4, y11_5, y11_6, y11_7, y11_8⟩ := Sq.f9 BK189.out
   go_wp2
   refine Cu.meet (by assumption) ?_ (by kernel_rfl) (by kernel_rfl)
   try dsimp only [Cu.pick, Cu.rep, Cu.nth]
   exact ⟨_, (decide ((wrap64 (a0_5 + 1)) < 3)), Sq.e, H', ⟨by first | omega | exact Nat.le_refl _⟩, ⟨Sq.B BK189.out⟩, ⟨Sq.F BK190.out⟩, ⟨Sq.w HB.out⟩⟩
 ·
  intro wc u5 u6 u7 u8 u9 u10 u11 u12 u13 u14 u15 u16 u17 u18 u19 u20 u21 u22 u23 u24 u25 u26 u27 u28 u29 u30
  try dsimp only [Cu.over, Cu.rep, Cu.nth]
  intro hcut
  clear HC2; (try clear z6_0 z6_1 z6_2 z6_3 z6_4 z6_5 z6_6 z6_7 z6_8); (try clear y6_0 y6_1 y6_2 y6_3 y6_4 y6_5 y6_6 y6_7 y6_8)
  obtain ⟨kq, x16_1, rfl, HA, HJ1, BK189, BK190, HB⟩ := hcut
  cases kq with
  | zero => exact absurd HA.out (by simp [gimbalref9_bad.j0])
  | succ kj1 =>
   have H := HA.out
   clear HA
   simp only [gimbalref9_bad.j0] at H
   by_cases c12 : x16_1 = true
   ·subst c12
    have H1 : (some (a0_0, a0_1, a0_2, a0_3, a0_4, (wrap64 (a0_5 + 1)), a0_6, a0_7, a0_8, ([] : List (S55)), false)) = some (r1, r2, r3, r4, r5, r6, r7, r8, r9, r10, r11) := by rw [if_pos rfl] at H; exact H
    clear H
    have H := H1
    clear H1
    simp only [Option.some.injEq, Prod.mk.injEq] at H
    obtain ⟨rfl, rfl, rfl, rfl, rfl, rfl, rfl, rfl, rfl, rfl, rfl⟩ := H
    have b13 := NB189_190.out; have d13 := NB190_189.out
    obtain ⟨z14_0, z14_1, z14_2, z14_3, z14_4, z14_5, z14_6, z14_7, z14_8⟩ := Sq.c9 BK189.out
    obtain ⟨y14_0, y14_1, y14_2, y14_3, y14_4, y14_5, y14_6, y14_7, y14_8⟩ := Sq.f9 BK189.out
    obtain ⟨z15_0, z15_1, z15_2, z15_3, z15_4, z15_5, z15_6, z15_7, z15_8⟩ := Sq.c9 BK190.out
    obtain ⟨y15_0, y15_1, y15_2, y15_3, y15_4, y15_5, y15_6, y15_7, y15_8⟩ := Sq.f9 BK190.out
    go_wp2
    refine bodyPost_ret (results_ctt rfl _ _ gb190 24 #[.int .i64 a0_0, .int .i64 a0_1, .bool a0_2, .int .i64 a0_3, .int .i64 a0_4, .int .i64 (wrap64 (a0_5 + 1)), .bool a0_6, .int .i64 a0_7, .int .i64 a0_8] (0, 0) _ rfl (Sq.B BK190.out) Try.underlying24 rfl (by kernel_rfl)) rfl ?_
    exact ⟨_, by first | rfl | (simp [errW_none, errW_some] <;> rfl) | (simp [*, errW_none, errW_some] <;> rfl), by first | exact Kd.R_nil _ _ _ _ _ | exact Kd.N_nil _ _ _ _ _ | exact Kd.V_nil _ _ _ _ _ | exact Kd.Q_nil _ _ _ _ _ | exact Kd.S_nil _ _ _ _ _, Sq.w HB.out⟩
   ·replace c12 := Bool.eq_false_iff.mpr c12
    subst c12
    have H1 : (if a0_4 = 7 then (some (a0_0, a0_1, a0_2, a0_3, 8, 0, a0_6, 0, a0_8, ([] : List (S55)), true)) else (if a0_6 = true then (some (a0_0, a0_1, a0_2, a0_3, 8, 0, a0_6, 0, a0_8, ([] : List (S55)), true)) else (some (a0_0, a0_1, a0_2, a0_3, 7, 0, a0_6, 0, a0_8, ([] : List (S55)), false)))) = some (r1, r2, r3, r4, r5, r6, r7, r8, r9, r10, r11) := by rw [if_neg (show ¬ (false = true) by decide)] at H; exact H
    clear H
    have H := H1
    clear H1
    by_cases c16 : a0_4 = 7
    ·rw [if_pos c16] at H
     have c16b0 : (a0_4 == 7) = true := beq_iff_eq.mpr c16
     have c16b1 : (a0_4 != 7) = false := bne_eq_false_iff_eq.mpr c16
     clear c16
     simp only [Option.some.injEq, Prod.mk.injEq] at H
     obtain ⟨rfl, rfl, rfl, rfl, rfl, rfl, rfl, rfl, rfl, rfl, rfl⟩ := H
     have b17 := NB189_190.out; have d17 := NB190_189.out
     obtain ⟨z18_0, z18_1, z18_2, z18_3, z18_4, z18_5, z18_6, z18_7, z18_8⟩ := Sq.c9 BK189.out
     obtain ⟨y18_0, y18_1, y18_2, y18_3, y18_4, y18_5, y18_6, y18_7, y18_8⟩ := Sq.f9 BK189.out
     obtain ⟨z19_0, z19_1, z19_2, z19_3, z19_4, z19_5, z19_6, z19_7, z19_8⟩ := Sq.c9 BK190.out
     obtain ⟨y19_0, y19_1, y19_2, y19_3, y19_4, y19_5, y19_6, y19_7, y19_8⟩ := Sq.f9 BK190.out
     go_wp2
     refine bodyPost_ret (results_ctt rfl _ _ gb190 24 #[.int .i64 a0_0, .int .i64 a0_1, .bool a0_2, .int .i64 a0_3, .int .i64 8, .int .i64 0, .bool a0_6, .int .i64 0, .int .i64 a0_8] (0, 0) _ rfl (Sq.B BK190.out) Try.underlying24 rfl (by kernel_rfl)) rfl ?_
     exact ⟨_, by first | rfl | (simp [errW_none, errW_some] <;> rfl) | (simp [*, errW_none, errW_some] <;> rfl), by first | exact Kd.R_nil _ _ _ _ _ | exact Kd.N_nil _ _ _ _ _ | exact Kd.V_nil _ _ _ _ _ | exact Kd.Q_nil _ _ _ _ _ | exact Kd.S_nil _ _ _ _ _, Sq.w HB.out⟩
    ·rw [if_neg c16] at H
     have c16b0 : (a0_4 == 7) = false := beq_eq_false_iff_ne.mpr c16
     have c16b1 : (a0_4 != 7) = true := bne_iff_ne.mpr c16
     by_cases c20 : a0_6 = true
     ·subst c20
      have H1 : (some (a0_0, a0_1, a0_2, a0_3, 8, 0, true, 0, a0_8, ([] : List (S55)), true)) = some (r1, r2, r3, r4, r5, r6, r7, r8, r9, r10, r11) := by rw [if_pos rfl] at H; exact H
      clear H
      have H := H1
      clear H1
      simp only [Option.some.injEq, Prod.mk.injEq] at H
      obtain ⟨rfl, rfl, rfl, rfl, rfl, rfl, rfl, rfl, rfl, rfl, rfl⟩ := H
      have b21 := NB189_190.out; have d21 := NB190_189.out
      obtain ⟨z22_0, z22_1, z22_2, z22_3, z22_4, z22_5, z22_6, z22_7, z22_8⟩ := Sq.c9 BK189.out
      obtain ⟨y22_0, y22_1, y22_2, y22_3, y22_4, y22_5, y22_6, y22_7, y22_8⟩ := Sq.f9 BK189.out
      obtain ⟨z23_0, z23_1, z23_2, z23_3, z23_4, z23_5, z23_6, z23_7, z23_8⟩ := Sq.c9 BK190.out
      obtain ⟨y23_0, y23_1, y23_2, y23_3, y23_4, y23_5, y23_6, y23_7, y23_8⟩ := Sq.f9 BK190.out
      go_wp2
      refine bodyPost_ret (results_ctt rfl _ _ gb190 24 #[.int .i64 a0_0, .int .i64 a0_1, .bool a0_2, .int .i64 a0_3, .int .i64 8, .int .i64 0, .bool true, .int .i64 0, .int .i64 a0_8] (0, 0) _ rfl (Sq.B BK190.out) Try.underlying24 rfl (by kernel_rfl)) rfl ?_
      exact ⟨_, by first | rfl | (simp [errW_none, errW_some] <;> rfl) | (simp [*, errW_none, errW_some] <;> rfl), by first | exact Kd.R_nil _ _ _ _ _ | exact Kd.N_nil _ _ _ _ _ | exact Kd.V_nil _ _ _ _ _ | exact Kd.Q_nil _ _ _ _ _ | exact Kd.S_nil _ _ _ _ _, Sq.w HB.out⟩
     ·replace c20 := Bool.eq_false_iff.mpr c20
      subst c20
      have H1 : (some (a0_0, a0_1, a0_2, a0_3, 7, 0, false, 0, a0_8, ([] : List (S55)), false)) = some (r1, r2, r3, r4, r5, r6, r7, r8, r9, r10, r11) := by rw [if_neg (show ¬ (false = true) by decide)] at H; exact H
      clear H
      have H := H1
      clear H1
      simp only [Option.some.injEq, Prod.mk.injEq] at H
      obtain ⟨rfl, rfl, rfl, rfl, rfl, rfl, rfl, rfl, rfl, rfl, rfl⟩ := H
      have b24 := NB189_190.out; have d24 := NB190_189.out
      obtain ⟨z25_0, z25_1, z25_2, z25_3, z25_4, z25_5, z25_6, z25_7, z25_8⟩ := Sq.c9 BK189.out
      obtain ⟨y25_0, y25_1, y25_2, y25_3, y25_4, y25_5, y25_6, y25_7, y25_8⟩ := Sq.f9 BK189.out
      obtain ⟨z26_0, z26_1, z26_2, z26_3, z26_4, z26_5, z26_6, z26_7, z26_8⟩ := Sq.c9 BK190.out
      obtain ⟨y26_0, y26_1, y26_2, y26_3, y26_4, y26_5, y26_6, y26_7, y26_8⟩ := Sq.f9 BK190.out
      go_wp2
      refine bodyPost_ret (results_ctt rfl _ _ gb190 24 #[.int .i64 a0_0, .int .i64 a0_1, .bool a0_2, .int .i64 a0_3, .int .i64 7, .int .i64 0, .bool false, .int .i64 0, .int .i64 a0_8] (0, 0) _ rfl (Sq.B BK190.out) Try.underlying24 rfl (by kernel_rfl)) rfl ?_
      exact ⟨_, by first | rfl | (simp [errW_none, errW_some] <;> rfl) | (simp [*, errW_none, errW_some] <;> rfl), by first | exact Kd.R_nil _ _ _ _ _ | exact Kd.N_nil _ _ _ _ _ | exact Kd.V_nil _ _ _ _ _ | exact Kd.Q_nil _ _ _ _ _ | exact Kd.S_nil _ _ _ _ _, Sq.w HB.out⟩

/-! ### gimbalref9_signed: function 41 -/
def gimbalref9_signed.f (a0 : Int) (a1 : Int) : Option (Int) := if (Go.bits .or .i64 (wrap64 ((wrap64 (a0)) * 256)) (wrap64 (a1))) ≥ 32768 then (some (wrap64 ((Go.bits .or .i64 (wrap64 ((wrap64 (a0)) * 256)) (wrap64 (a1))) - 65536))) else (some (Go.bits .or .i64 (wrap64 ((wrap64 (a0)) * 256)) (wrap64 (a1))))
set_option maxHeartbeats 8000000 in
set_option maxRecDepth 100000 in
theorem gimbalref9_signed.calls (a0 : Int) (a1 : Int) (r : Int) (w : World) (h : gimbalref9_signed.f a0 a1 = some r) :
  Calls Try.prog 41 #[.int .u8 a0, .int .u8 a1] w fun e w' => e = .returned (.int .i64 r) ∧ Drawn0 w w' := by
 have H : (if (Go.bits .or .i64 (wrap64 ((wrap64 (a0)) * 256)) (wrap64 (a1))) ≥ 32768 then (some (wrap64 ((Go.bits .or .i64 (wrap64 ((wrap64 (a0)) * 256)) (wrap64 (a1))) - 65536))) else (some (Go.bits .or .i64 (wrap64 ((wrap64 (a0)) * 256)) (wrap64 (a1))))) = some r := h
 clear h
 by_cases c3 : (Go.bits .or .i64 (wrap64 ((wrap64 (a0)) * 256)) (wrap64 (a1))) ≥ 32768
 ·rw [if_pos c3] at H
  have c3b0 : decide (32768 ≤ (Go.bits .or .i64 (wrap64 ((wrap64 (a0)) * 256)) (wrap64 (a1)))) = true := decide_eq_true c3
  clear c3
  obtain rfl := Option.some.inj H
  go_enter Try.func41, Try.ntmps41
  go_wp2
  go_ret
  exact ⟨by first | rfl | (simp; done) | (simp [*]; done), by repeat (first | exact Drawn0.refl _ | apply Drawn0.step)⟩
 ·rw [if_neg c3] at H
  have c3b0 : decide (32768 ≤ (Go.bits .or .i64 (wrap64 ((wrap64 (a0)) * 256)) (wrap64 (a1)))) = false := decide_eq_false c3
  clear c3
  obtain rfl := Option.some.inj H
  go_enter Try.func41, Try.ntmps41
  go_wp2
  go_ret
  exact ⟨by first | rfl | (simp; done) | (simp [*]; done), by repeat (first | exact Drawn0.refl _ | apply Drawn0.step)⟩

end Go.Proofs.Ytnlmbejkemkkoaa.PDrvExact
