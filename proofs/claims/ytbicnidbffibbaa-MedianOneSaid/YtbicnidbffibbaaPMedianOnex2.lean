import Derived.Test.YtbicnidbffibbaaPMedianOnex0
namespace Go.Proofs.Ytbicnidbffibbaa.PMedianOne
open Go.RowKit Go.Proofs.YtbicnidbffibbaaW.PrintWords Go.Proofs.YtbicnidbffibbaaW.PrintLast Go.Proofs.YtbicnidbffibbaaW.PrintMore
attribute [local go_sem] max2_int min2_int max_two min_two max_three min_three max_four min_four   -- for this text's walks alone
set_option linter.unusedVariables false
set_option linter.unusedSimpArgs false

/-! ### fx_Good: function 30 -/
def fx_Good.f (a0 : Int) : Option (Bool) := if a0 > (-35184372088832) then (some (decide (a0 < 35184372088832))) else (some false)
set_option maxHeartbeats 8000000 in
set_option maxRecDepth 100000 in
theorem fx_Good.calls (a0 : Int) (r : Bool) (w : World) (h : fx_Good.f a0 = some r) :
    Calls Try.prog 30 #[.int .i64 a0] w fun e w' => e = .returned (.bool r) ∧ Drawn0 w w' := by
  have H : (if a0 > (-35184372088832) then (some (decide (a0 < 35184372088832))) else (some false)) = some r := h
  clear h
  by_cases c2 : a0 > (-35184372088832)
  · rw [if_pos c2] at H
    have c2b0 : decide ((-35184372088832) < a0) = true := decide_eq_true c2
    clear c2
    obtain rfl := Option.some.inj H
    go_enter Try.func30, Try.ntmps30
    go_wp2
    go_ret
    exact ⟨by first | rfl | (simp; done) | (simp [*]; done), by repeat (first | exact Drawn0.refl _ | apply Drawn0.step)⟩
  · rw [if_neg c2] at H
    have c2b0 : decide ((-35184372088832) < a0) = false := decide_eq_false c2
    clear c2
    obtain rfl := Option.some.inj H
    go_enter Try.func30, Try.ntmps30
    go_wp2
    go_ret
    exact ⟨by first | rfl | (simp; done) | (simp [*]; done), by repeat (first | exact Drawn0.refl _ | apply Drawn0.step)⟩

/-! ### fx_All: function 26 -/
def fx_All.l0 : Nat → List Int → Int → Int → Option (Bool)
  | 0, _, _, _ => none
  | k + 1, x5, x6, x7 => if x7 < x6 then (if 0 ≤ x7 then (if x7 < (x5.length : Int) then ((fx_Good.f (rd x5 x7)).bind fun t102 => (if t102 = true then (fx_All.l0 k x5 x6 (wrap64 (x7 + 1))) else (some false))) else (none)) else (none)) else (some true)
def fx_All.f (k : Nat) (l0 : List Int) : Option (Bool) := fx_All.l0 k l0 (l0.length : Int) 0
theorem fx_All.mono_l : ∀ k, (∀ y0 y1 y2, LeO (fx_All.l0 k y0 y1 y2) (fx_All.l0 (k + 1) y0 y1 y2))
  | 0 => fun _ _ _ r h => by simp [fx_All.l0] at h
  | k + 1 => by
    have ih0 := fx_All.mono_l k
    · intro y0 y1 y2
      unfold fx_All.l0
      repeat' first
      | (with_reducible exact ih0 _ _ _)
      | (with_reducible exact LeO.refl _)
      | (with_reducible exact LeO.none _)
      | (with_reducible refine LeO.ite ?_ ?_)
      | (with_reducible refine LeO.bind ?_ (fun _ => ?_))
      | exact ih0 _ _ _
      | exact LeO.none _
      | refine LeO.ite ?_ ?_
      | refine LeO.bind ?_ (fun _ => ?_)
theorem fx_All.mono : ∀ a0 k, LeO (fx_All.f k a0) (fx_All.f (k + 1) a0) := by
  intro a0 k
  have ih0 := fx_All.mono_l k
  unfold fx_All.f
  repeat' first
      | (with_reducible exact ih0 _ _ _)
      | (with_reducible exact LeO.refl _)
      | (with_reducible exact LeO.none _)
      | (with_reducible refine LeO.ite ?_ ?_)
      | (with_reducible refine LeO.bind ?_ (fun _ => ?_))
      | exact ih0 _ _ _
      | exact LeO.none _
      | refine LeO.ite ?_ ?_
      | refine LeO.bind ?_ (fun _ => ?_)
set_option maxHeartbeats 8000000 in
set_option maxRecDepth 100000 in
theorem fx_All.calls (k : Nat) (A0 : Option Addr) (c0 : Nat) (l0 : List Int) (r : Bool) (w : World) (hr0 : Kd.C (Kd.int .i64) w A0 l0.length l0) (hc0 : l0.length ≤ c0) (h : fx_All.f k l0 = some r) :
    Calls Try.prog 26 #[.slice A0 l0.length c0] w fun e w' => e = .returned (.bool r) ∧ Drawn0 w w' := by
  have HR0 := Aside0.mk hr0
  have HC0 := Aside0.mk hc0
  clear hr0 hc0
  have H : (fx_All.l0 k l0 (l0.length : Int) 0) = some r := h
  clear h
  have H' := Aside0.mk H
  clear H
  go_enter Try.func26, Try.ntmps26
  go_wp2
  go_loopg [7] k (fun kq v7 w' => ∃ (x7_1 : Int), v7 = .int .i64 x7_1 ∧ Aside0 (fx_All.l0 kq l0 (l0.length : Int) x7_1 = some r) ∧ Aside0 (kq ≤ k) ∧ Drawn0 w w')
  case atStart => exact ⟨(0), (by first | rfl | (simp; done) | (simp [*]; done)), H', ⟨Nat.le_refl _⟩, by repeat (first | exact Drawn0.refl _ | apply Drawn0.step)⟩
  case round =>
    clear H'
    obtain ⟨x7_1, rfl, HA, HK1, ⟨m1, rfl⟩⟩ := hrel
    cases gk with
    | zero => exact absurd HA.out (by simp [fx_All.l0])
    | succ k1 =>
      have H := HA.out
      clear HA
      simp only [fx_All.l0] at H
      by_cases c2 : x7_1 < (l0.length : Int)
      · rw [if_pos c2] at H
        have c2b0 : decide (x7_1 < (l0.length : Int)) = true := decide_eq_true c2
        clear c2
        by_cases c3 : 0 ≤ x7_1
        · rw [if_pos c3] at H
          have c3b0 : decide (0 ≤ x7_1) = true := decide_eq_true c3
          clear c3
          by_cases c4 : x7_1 < (l0.length : Int)
          · rw [if_pos c4] at H
            have c4b0 : decide (x7_1 < (l0.length : Int)) = true := decide_eq_true c4
            clear c4
            replace H := Option.bind_eq_some_iff.mp H
            obtain ⟨t102, A50, H⟩ := H
            replace H : (if t102 = true then (fx_All.l0 k1 l0 (l0.length : Int) (wrap64 (x7_1 + 1))) else (some false)) = some r := H
            have A5 := Aside0.mk A50
            clear A50
            by_cases c6 : t102 = true
            · subst c6
              have H1 : (fx_All.l0 k1 l0 (l0.length : Int) (wrap64 (x7_1 + 1))) = some r := by rw [if_pos rfl] at H; exact H
              clear H
              have H := H1
              clear H1
              have H' := Aside0.mk H
              clear H
              have p101 : 0 ≤ (x7_1 : Int) := of_decide_eq_true (by first | (with_reducible assumption) | assumption)
              have q101 : x7_1 < (l0.length : Int) := of_decide_eq_true (by first | (with_reducible assumption) | assumption)
              obtain ⟨ad101, e101, hx101_0⟩ := Kd.at_int HR0.out x7_1 p101 q101
              cases e101
              replace p101 := eq_true p101
              replace q101 := eq_true q101
              go_wp2_with (first | ((with_reducible refine gate_callee (f := 30) rfl ?_); refine goesL_ (some 12) rfl rfl Try.func30 (by kernel_rfl) rfl #[.int .i64 (rd l0 x7_1)] rfl (by (try simp only [List.map_toArray, List.map_cons, List.map_nil]); first | done | rfl | (simp only [List.length_drop, List.length_take]; rfl)) ?_; (with_reducible refine (fx_Good.calls (rd l0 x7_1) true _ A5.out).mono ?_); rintro e w' ⟨rfl, ⟨nd, rfl⟩⟩; refine ⟨_, rfl, ?_⟩))
              go_roundg k1
              case measure => have := HK1.out; omega
              case rel => exact ⟨(wrap64 (x7_1 + 1)), (by first | rfl | (simp; done) | (simp [*]; done)), H', ⟨by have := HK1.out; omega⟩, by repeat (first | exact Drawn0.refl _ | apply Drawn0.step)⟩
            · replace c6 := Bool.eq_false_iff.mpr c6
              subst c6
              have H1 : (some false) = some r := by rw [if_neg (show ¬ (false = true) by decide)] at H; exact H
              clear H
              have H := H1
              clear H1
              obtain rfl := Option.some.inj H
              have p101 : 0 ≤ (x7_1 : Int) := of_decide_eq_true (by first | (with_reducible assumption) | assumption)
              have q101 : x7_1 < (l0.length : Int) := of_decide_eq_true (by first | (with_reducible assumption) | assumption)
              obtain ⟨ad101, e101, hx101_0⟩ := Kd.at_int HR0.out x7_1 p101 q101
              cases e101
              replace p101 := eq_true p101
              replace q101 := eq_true q101
              go_wp2_with (first | ((with_reducible refine gate_callee (f := 30) rfl ?_); refine goesL_ (some 12) rfl rfl Try.func30 (by kernel_rfl) rfl #[.int .i64 (rd l0 x7_1)] rfl (by (try simp only [List.map_toArray, List.map_cons, List.map_nil]); first | done | rfl | (simp only [List.length_drop, List.length_take]; rfl)) ?_; (with_reducible refine (fx_Good.calls (rd l0 x7_1) false _ A5.out).mono ?_); rintro e w' ⟨rfl, ⟨nd, rfl⟩⟩; refine ⟨_, rfl, ?_⟩))
              go_ret
              exact ⟨by first | rfl | (simp; done) | (simp [*]; done), by repeat (first | exact Drawn0.refl _ | apply Drawn0.step)⟩
          · rw [if_neg c4] at H
            exact absurd H (by simp)
        · rw [if_neg c3] at H
          exact absurd H (by simp)
      · rw [if_neg c2] at H
        have c2b0 : decide (x7_1 < (l0.length : Int)) = false := decide_eq_false c2
        clear c2
        obtain rfl := Option.some.inj H
        go_wp2
        go_ret
        exact ⟨by first | rfl | (simp; done) | (simp [*]; done), by repeat (first | exact Drawn0.refl _ | apply Drawn0.step)⟩

/-! ### vec_Good: function 17 -/
def vec_Good.f (k : Nat) (a0_0 : Int) (a0_1 : Int) (a0_2 : Int) : Option (Bool) := (fx_All.f k (([a0_0, a0_1, a0_2] : List Int))).bind fun t107 => (some t107)
theorem vec_Good.mono : ∀ a0 a1 a2 k, LeO (vec_Good.f k a0 a1 a2) (vec_Good.f (k + 1) a0 a1 a2) := by
  intro a0 a1 a2 k
  unfold vec_Good.f
  repeat' first
      | (with_reducible exact fx_All.mono _ _)
      | (with_reducible exact LeO.refl _)
      | (with_reducible exact LeO.none _)
      | (with_reducible refine LeO.ite ?_ ?_)
      | (with_reducible refine LeO.bind ?_ (fun _ => ?_))
      | exact fx_All.mono _ _
      | exact LeO.none _
      | refine LeO.ite ?_ ?_
      | refine LeO.bind ?_ (fun _ => ?_)
set_option maxHeartbeats 8000000 in
set_option maxRecDepth 100000 in
theorem vec_Good.calls (k : Nat) (a0_0 : Int) (a0_1 : Int) (a0_2 : Int) (r : Bool) (w : World) (h : vec_Good.f k a0_0 a0_1 a0_2 = some r) :
    Calls Try.prog 17 #[.agg #[.int .i64 a0_0, .int .i64 a0_1, .int .i64 a0_2]] w fun e w' => e = .returned (.bool r) ∧ Below w.heap.size w w' := by
  have hu25 := Try.underlying25
  have HB := Aside0.mk (Below.refl w.heap.size w)
  have H : ((fx_All.f k (([a0_0, a0_1, a0_2] : List Int))).bind fun t107 => (some t107)) = some r := h
  clear h
  obtain ⟨y104, hy104⟩ : ∃ y_ : List Int, y_ = (([a0_0, a0_1, a0_2] : List Int)) := ⟨_, rfl⟩
  replace H : ((fx_All.f k y104).bind fun t107 => (some t107)) = some r := by first | (rw [hy104]; with_reducible exact H) | (have H2_ := (Option.bind_some _ _).symm.trans H; rw [hy104]; with_reducible exact H2_) | (have H2_ := (Option.bind_some _ _).symm.trans H; with_reducible exact H2_) | with_reducible exact H | (rw [hy104]; exact H) | exact H
  have Ny104 := Aside0.mk hy104
  clear hy104
  replace H := Option.bind_eq_some_iff.mp H
  obtain ⟨t107, A20, H⟩ := H
  replace H : (some t107) = some r := H
  have A2 := Aside0.mk A20
  clear A20
  obtain rfl := Option.some.inj H
  go_enter Try.func17, Try.ntmps17
  go_wp2_with (first | ((with_reducible refine gate_dst (N := 1) rfl ?_); refine box_event ?hg (N := 1) ?hd (cs := #[.int .i64 a0_0, .int .i64 a0_1, .int .i64 a0_2]) (t := 25) ?hr ?_; (case hd => rfl); (case hg => rfl); (case hr => first | (go_simp; done) | (go_simp; rfl)); intro gb103 hg w3 hbox hb; have n0_ := Aside0.mk (below_step (by repeat (first | (with_reducible first | exact HB.out | apply below_alloc | apply pw_below_drewN | apply below_drew1) | exact HB.out)) hb); have n1_ := Aside0.mk (hbox); have n2_ := Aside0.mk ((by rw [hg]; exact (below_size (by repeat (first | (with_reducible first | exact HB.out | apply below_alloc | apply pw_below_drewN | apply below_drew1) | exact HB.out))) : w.heap.size ≤ gb103)); have n3_ := Aside0.mk ((by rw [hg]; exact (below_size (by repeat (first | (with_reducible first | exact HB.out | apply below_alloc | apply pw_below_drewN | apply below_drew1) | exact HB.out))) : w.heap.size ≤ gb103)); clear HB; have HB := n0_; have BK103 := n1_; have GW103 := n2_; have GE103 := n3_; clear n0_ n1_ n2_ n3_; clear hb hbox hg; have hcz4_0 : w3.cell? ⟨gb103, 0, none⟩ = some (.int .i64 a0_0) := (blk_cell BK103.out 0).trans rfl; have hcz4_1 : w3.cell? ⟨gb103, 1, none⟩ = some (.int .i64 a0_1) := (blk_cell BK103.out 1).trans rfl; have hcz4_2 : w3.cell? ⟨gb103, 2, none⟩ = some (.int .i64 a0_2) := (blk_cell BK103.out 2).trans rfl; have hfz4_0 := blk_frozen BK103.out 0; have hfz4_1 := blk_frozen BK103.out 1; have hfz4_2 := blk_frozen BK103.out 2) | ((with_reducible refine gate_dst (N := 9) rfl ?_); refine Kd.R_lit (Kd.int .i64) _ 2 ?hg (N := 9) ?hd (xs := ([a0_0, a0_1, a0_2] : List Int)) (inner := [.int .i64 a0_0, .int .i64 a0_1, .int .i64 a0_2]) (ok := fun _ => True) (okp := fun _ => True) ?hr ?hp (fun _ hk => hk) trivial (Below.refl _ _) (Nat.le_refl _) (by simp) ?_; (case hd => rfl); (case hg => rfl); (case hr => first | (go_simp; done) | (go_simp; rfl)); (case hp => exact (Reps.one (show Kd.M (Kd.int .i64) _ _ _ a0_0 [.int .i64 a0_0] from rfl) (Reps.one (show Kd.M (Kd.int .i64) _ _ _ a0_1 [.int .i64 a0_1] from rfl) (Reps.one (show Kd.M (Kd.int .i64) _ _ _ a0_2 [.int .i64 a0_2] from rfl) (Reps.none _ _))))); intro v105 w5 ho6 hb hg_ hnew_; clear hg_ hnew_; (first | rw [← Ny104.out] at ho6 | (simp only [Int.reduceToNat] at ho6; rw [← Ny104.out] at ho6)); have n0_ := Aside0.mk (Kd.R_lower ho6 (below_size (by repeat (first | (with_reducible first | exact HB.out | apply below_alloc | apply pw_below_drewN | apply below_drew1 | refine below_set ?_ GE103.out) | exact HB.out)))); have n1_ := Aside0.mk (blk_below (g := gb103) (o := .cells #[.int .i64 a0_0, .int .i64 a0_1, .int .i64 a0_2] 25 (0, 0)) (by (with_reducible repeat (first | refine blk_drewN ?_ _ | refine blk_drew ?_ | refine blk_alloc ?_ _)); exact BK103.out) hb); have n2_ := Aside0.mk (below_step (by repeat (first | (with_reducible first | exact HB.out | apply below_alloc | apply pw_below_drewN | apply below_drew1 | refine below_set ?_ GE103.out) | exact HB.out)) hb); clear BK103; clear HB; have HO106 := n0_; have BK103 := n1_; have HB := n2_; clear n0_ n1_ n2_; clear hb ho6; obtain ⟨Ao7, co7, eo7⟩ := Kd.R_slice HO106.out; subst eo7) | ((with_reducible refine gate_callee (f := 26) rfl ?_); refine goesL_ (some 10) rfl rfl Try.func26 (by kernel_rfl) rfl #[.slice Ao7 y104.length co7] rfl (by (try simp only [List.map_toArray, List.map_cons, List.map_nil]); first | done | rfl | (simp only [List.length_drop, List.length_take]; rfl)) ?_; (with_reducible refine (fx_All.calls k _ _ y104 t107 _ ?side1 ?side2 A2.out).mono ?_); (case side1 => repeat (first | exact (Kd.R_reads' HO106.out).2.2 | (with_reducible refine Kd.C_alloc ?_ _) | (with_reducible refine Kd.C_drewN ?_ _) | (with_reducible refine Kd.C_drew ?_))); (case side2 => exact (Kd.R_reads' HO106.out).2.1); rintro e w' ⟨rfl, ⟨nd, rfl⟩⟩; refine ⟨_, rfl, ?_⟩))
  go_ret
  exact ⟨by first | rfl | (simp [errW_none, errW_some] <;> rfl) | (simp [*, errW_none, errW_some] <;> rfl), by repeat (first | (with_reducible first | exact HB.out | apply below_alloc | apply pw_below_drewN | apply below_drew1 | refine below_set ?_ GE103.out) | exact HB.out)⟩

-- NOT PRINTED: function 27 (api_Vec_27)

/-! ### slices_ContainsFunc_1: function 18, given -/
def enc25 (x : S25) : List Value := [.int .i64 x.f0, .int .i64 x.f1, .int .i64 x.f2]
instance : Inhabited S25 := ⟨z25⟩
def gdS (x : S25) : Bool := Md.gd3 x.f0 x.f1 x.f2
theorem medPred (w : World) : Go.Proofs.PredBelow Try.prog 19 #[] (fun x : S25 => .agg (enc25 x).toArray) (fun x => !gdS x) w := fun W x hb => by
  show Calls Try.prog 19 #[.agg #[.int .i64 x.f0, .int .i64 x.f1, .int .i64 x.f2]] W _
  have hcon := fun W' => Md.vecGood x.f0 x.f1 x.f2 W'
  go_enter Try.func19, Try.ntmps19
  go_wp2_with (go_at_call 17; refine (hcon _).mono ?_; rintro e w' ⟨rfl, hb'⟩)
  go_ret
  exact ⟨rfl, (hb.alloc hb.size _).trans (hb'.mono (Nat.le_trans hb.size (by simp)))⟩
theorem C25_form {w : World} {A0 : Option Addr} {l0 : List S25} (hr : Kd.C k25 w A0 l0.length l0) (hn : 0 < l0.length) : ∃ b off, A0 = some ⟨b, off, none⟩ ∧ b < w.heap.size ∧
    ∀ j, j < l0.length → ∀ i v, (enc25 l0[j]!)[i]? = some v → w.cell? ⟨b, off + j * 3 + i, none⟩ = some v := by
  obtain ⟨ad, e, h0, _, _⟩ := at_T25 hr 0 (by omega) (by omega)
  have hsp : ad.spot = none := by
    simp only [Int.toNat_zero, Nat.zero_mul] at h0
    have : ad.add 0 = ad := rfl
    rw [this] at h0
    unfold World.cell? at h0
    split at h0
    · split at h0
      · cases h0
      · next hh => simpa using hh
    · cases h0
  obtain ⟨b, off, sp⟩ := ad
  simp only at hsp
  subst hsp
  refine ⟨b, off, e, World.block_lt_of_cell? w _ h0, fun j hj i v hi => ?_⟩
  obtain ⟨ad', e', h0, h1, h2⟩ := at_T25 hr j (by omega) (by omega)
  rw [e] at e'
  cases e'
  have hj' : rd_T25 l0 j = l0[j]! := by
    unfold rd_T25
    rw [Int.toNat_natCast, List.getD_eq_getElem?_getD, List.getElem!_eq_getElem?_getD]
    rfl
  rw [hj'] at h0 h1 h2
  rw [Int.toNat_natCast, add_at] at h0 h1 h2
  match i, hi with
  | 0, hi => cases hi; exact h0
  | 1, hi => cases hi; exact h1
  | 2, hi => cases hi; exact h2
  | i + 3, hi => simp [enc25] at hi
set_option maxHeartbeats 2000000 in
theorem medContains {w : World} {A0 : Option Addr} {c0 : Nat} {l0 : List S25} (hr : Kd.C k25 w A0 l0.length l0) :
    Calls Try.prog 18 #[.slice A0 l0.length c0, .func (.func 19) #[] #[]] w fun e w' => e = .returned (.bool (l0.any fun x => !gdS x)) ∧ Below w.heap.size w w' := by
  by_cases hn : 0 < l0.length
  · obtain ⟨b, off, rfl, hb, hc⟩ := C25_form hr hn
    have eg : ∀ args w, (callFunc 19 args).run Try.prog w = .ok (.enter 19 args) w := enters_of Try.func19 (by kernel_rfl) rfl
    have h := Go.Proofs.AnyQ.slices_ContainsFunc Md.Try.contM 3 Try.isAgg25 Try.sizeOf25 enc25 (fun _ => rfl) (fun x => !gdS x) 19 #[] eg b off l0.length c0 l0 w (medPred w) (Nat.le_refl _) hr.2.1 hb hc
    rw [List.take_length] at h
    exact h
  · have e0 : l0 = [] := List.eq_nil_of_length_eq_zero (by omega)
    subst e0
    simp only [List.length_nil, List.any_nil]
    go_enter Try.func18, Try.ntmps18
    go_wp2
    refine wp_loop_rounds 1 ?_
    rw [rounds_succ]
    go_wp2
    go_ret
    exact ⟨rfl, Below.refl _ _⟩
def slices_ContainsFunc_1.f (l0 : List S25) : Option Bool := some (l0.any fun x => !gdS x)
theorem slices_ContainsFunc_1.calls (A0 : Option Addr) (c0 : Nat) (l0 : List S25) (r : Bool) (w : World) (hr0 : Kd.C k25 w A0 l0.length l0) (hc0 : l0.length ≤ c0) (h : slices_ContainsFunc_1.f l0 = some r) :
    Calls Try.prog 18 #[.slice A0 l0.length c0, .func (.func 19) #[] #[]] w fun e w' => e = .returned (.bool r) ∧ Below w.heap.size w w' := by
  have h' := Option.some.inj h
  subst h'
  exact medContains hr0

/-! ### api_Vec_20: function 20 -/
theorem medInfo2 : (Try.prog.info? 2).map (fun i => (i.zero, i.size, i.bytes)) = some (some (.int .i64 0), 1, 8) := by kernel_rfl
theorem medInfo25 : (Try.prog.info? 25).map (fun i => (i.zero, i.size, i.bytes)) = some (some (.agg #[(.int .i64 0), (.int .i64 0), (.int .i64 0)]), 3, 24) := by kernel_rfl
set_option maxHeartbeats 2000000 in
theorem medClone {w : World} {A0 : Option Addr} {c0 : Nat} {l0 : List S25} (hr : Kd.C k25 w A0 l0.length l0) (hl : l0.length ≤ 7) :
    Calls Try.prog 20 #[.slice A0 l0.length c0] w fun e w' => ∃ v', e = .returned v' ∧ Kd.R k25 25 w' w.heap.size (fun _ => True) v' l0 ∧ Below w.heap.size w w' := by
  cases A0 with
  | none =>
    have e0 : l0 = [] := by
      cases l0 with
      | nil => rfl
      | cons x l =>
        obtain ⟨ad, e, _⟩ := hr.2.2 (by simp)
        cases e
    subst e0
    refine (Go.Proofs.AnyE.slices_Clone_nil Md.Try.cloneM 0 c0 w).mono fun e w' hh => ?_
    obtain ⟨he, hw⟩ := hh
    subst hw
    exact ⟨_, he, Kd.R_nil _ _ _ _ _, Below.refl _ _⟩
  | some ad =>
    have q22 : ∀ (w : World) (a : Option Addr) (n c n' c' : Nat), (binOp .eql 23 (.slice a n c) (.slice none n' c')).run Try.prog w = .ok (.bool a.isNone) w := fun w a n c n' c' => Go.Lib.run_eql_slice_nil w _ _ a n c n' c' Try.underlying23
    have HR := Aside0.mk hr
    clear hr
    go_enter Try.func20, Try.ntmps20
    have hcons : ∀ (x : S25) (cs : List Value) (W : World), k25.K W x cs → k25.M W w.heap.size (fun _ => False) x cs := fun x cs W hk => by
      obtain rfl := k25_open hk
      exact k25_mkM _ _ _ x
    go_wp2_with (at_builtin; go_loud (refine Kd.R_append_rows k25 (Rr := k25.K (w.alloc (.cells #[] 25))) (w0 := w) w.heap.size rfl (.tmp 5) (.tmp 6) 23 25 (.agg #[(.int .i64 0), (.int .i64 0), (.int .i64 0)]) 24 rfl Try.underlying23 medInfo25 rfl (by decide) (by omega) (.slice (some ⟨w.heap.size, 0, none⟩) 0 0) [] l0 (some ad) l0.length c0 (fun _ => True) (fun _ => False) rfl rfl ?aO ?aR ?aK (fun _ hk => hk.elim) (fun _ _ => trivial) ?aB ?aS ?aL ?_))
    case aO => exact ⟨fun _ _ => trivial, [], World.ownsRow_made w #[] 0 (Nat.le_refl _) (Nat.zero_le _) (by simp), Reps.none _ _⟩
    case aR => exact Kd.C_below HR.out ((Below.refl _ w).alloc (Nat.le_refl _) _)
    case aK => exact fun x cs hk => hcons x cs _ hk
    case aB => exact (Below.refl _ w).alloc (Nat.le_refl _) _
    case aS => simp
    case aL => simp; omega
    intro v1 w1 h1 h2 _ _
    go_wp2
    go_ret
    exact ⟨v1, rfl, h1, h2⟩
def api_Vec_20.f (l0 : List S25) : Option (List S25) := if l0.length ≤ 7 then some l0 else none
theorem api_Vec_20.calls (A0 : Option Addr) (c0 : Nat) (l0 : List S25) (r : List S25) (w : World) (hr0 : Kd.C k25 w A0 l0.length l0) (hc0 : l0.length ≤ c0) (h : api_Vec_20.f l0 = some r) :
    Calls Try.prog 20 #[.slice A0 l0.length c0] w fun e w' => ∃ v0_ : Value, e = .returned (v0_) ∧ Kd.R k25 25 w' w.heap.size (fun _ => True) v0_ r ∧ Below w.heap.size w w' := by
  unfold api_Vec_20.f at h
  by_cases hl : l0.length ≤ 7
  · rw [if_pos hl] at h
    cases h
    exact medClone hr0 hl
  · rw [if_neg hl] at h
    cases h

-- NOT PRINTED: function 34 (slices_insertionSortCmpFunc_int64)

-- NOT PRINTED: function 44 (slices_siftDownCmpFunc_int64)

-- NOT PRINTED: function 35 (slices_heapSortCmpFunc_int64)

-- NOT PRINTED: function 46 (slices_xorshift_Next)

-- NOT PRINTED: function 36 (slices_breakPatternsCmpFunc_int64)

-- NOT PRINTED: function 49 (slices_order2CmpFunc_int64)

-- NOT PRINTED: function 48 (slices_medianCmpFunc_int64)

-- NOT PRINTED: function 47 (slices_medianAdjacentCmpFunc_int64)

-- NOT PRINTED: function 37 (slices_choosePivotCmpFunc_int64)

-- NOT PRINTED: function 38 (slices_reverseRangeCmpFunc_int64)

-- NOT PRINTED: function 39 (slices_partialInsertionSortCmpFunc_int64)

-- NOT PRINTED: function 40 (slices_partitionEqualCmpFunc_int64)

-- NOT PRINTED: function 41 (slices_partitionCmpFunc_int64)

-- NOT PRINTED: function 31 (slices_pdqsortCmpFunc_int64)

-- NOT PRINTED: function 28 (slices_SortFunc_int64_int64)

/-! ### median_middle_0: function 21, given -/
theorem medOf0 (W : World) (x : S25) : Calls Try.prog 22 #[.agg #[.int .i64 x.f0, .int .i64 x.f1, .int .i64 x.f2]] W fun e w' => e = .returned (.int .i64 x.f0) ∧ Below W.heap.size W w' := by
  go_enter Try.func22, Try.ntmps22
  go_wp2
  go_ret
  exact ⟨rfl, (Below.refl W.heap.size W).alloc (Nat.le_refl _) _⟩
theorem medOf1 (W : World) (x : S25) : Calls Try.prog 23 #[.agg #[.int .i64 x.f0, .int .i64 x.f1, .int .i64 x.f2]] W fun e w' => e = .returned (.int .i64 x.f1) ∧ Below W.heap.size W w' := by
  go_enter Try.func23, Try.ntmps23
  go_wp2
  go_ret
  exact ⟨rfl, (Below.refl W.heap.size W).alloc (Nat.le_refl _) _⟩
theorem medOf2 (W : World) (x : S25) : Calls Try.prog 24 #[.agg #[.int .i64 x.f0, .int .i64 x.f1, .int .i64 x.f2]] W fun e w' => e = .returned (.int .i64 x.f2) ∧ Below W.heap.size W w' := by
  go_enter Try.func24, Try.ntmps24
  go_wp2
  go_ret
  exact ⟨rfl, (Below.refl W.heap.size W).alloc (Nat.le_refl _) _⟩
set_option maxHeartbeats 4000000 in
theorem medMiddle (g : Nat) (eg : ∀ args w, (callFunc g args).run Try.prog w = .ok (.enter g args) w) (of : S25 → Int)
    (hg : ∀ (W : World) (x : S25), Calls Try.prog g #[.agg #[.int .i64 x.f0, .int .i64 x.f1, .int .i64 x.f2]] W fun e w' => e = .returned (.int .i64 (of x)) ∧ Below W.heap.size W w')
    {w : World} {A0 : Option Addr} {c0 : Nat} {l0 : List S25} (hr : Kd.C k25 w A0 l0.length l0) (hn : 0 < l0.length) (hl : l0.length ≤ 7) :
    Calls Try.prog 21 #[.slice A0 l0.length c0, .func (.func g) #[] #[]] w fun e w' => e = .returned (.int .i64 (Md.midOf (l0.map of))) ∧ Below w.heap.size w w' := by
  have HR0 := Aside0.mk hr
  have HG := Aside0.mk hg
  clear hr hg
  go_enter Try.func21, Try.ntmps21
  go_wp2
  go_loopg [5, 10] l0.length (fun kq v5 v10 w' => ∃ j : Nat, j ≤ l0.length ∧ l0.length - j ≤ kq ∧ v10 = .int .i64 j ∧ Aside0 (Kd.R (Kd.int .i64) 2 w' w.heap.size (fun _ => True) v5 ((l0.take j).map of)) ∧ Aside0 (Below w.heap.size w w'))
  case atStart => exact ⟨0, Nat.zero_le _, by omega, rfl, ⟨Kd.R_nil _ _ _ _ _⟩, ⟨Below.refl _ _⟩⟩
  case round =>
    obtain ⟨j, hj, hk, rfl, HO, HB⟩ := hrel
    by_cases hlt : j < l0.length
    · have hlt' : (j : Int) < (l0.length : Int) := by omega
      obtain ⟨x, hx⟩ : ∃ x, x = rd_T25 l0 j := ⟨_, rfl⟩
      obtain ⟨ad, e0, h0, h1, h2⟩ := at_T25 HR0.out j (by omega) (by omega)
      rw [← hx] at h0 h1 h2
      cases e0
      replace h0 := (HB.out.cell (World.block_lt_of_cell? w _ h0)).trans h0
      replace h1 := (HB.out.cell (World.block_lt_of_cell? w _ h1)).trans h1
      replace h2 := (HB.out.cell (World.block_lt_of_cell? w _ h2)).trans h2
      rw [Int.toNat_natCast] at h0 h1 h2
      have HX := Aside0.mk hx
      clear hx
      go_wp2_with (first
        | (go_at_fn g; refine (HG.out _ x).mono ?_; rintro e w2 ⟨rfl, hb2⟩; have HB2 := Aside0.mk hb2; clear hb2; have HO2 := Aside0.mk (Kd.R_below (Kd.R_alloc HO.out _) HB2.out); have HB3 := Aside0.mk ((HB.out.alloc HB.out.size _).trans (HB2.out.mono (HB.out.alloc HB.out.size _).size)))
        | (at_builtin; go_loud (refine Kd.R_append (Kd.int .i64) (w0 := w) w.heap.size rfl (.tmp 14) (.tmp 18) 42 2 (.int .i64 0) 8 rfl Try.underlying42 medInfo2 rfl (by decide) (by omega) u5 ((l0.take j).map of) (of x) [.int .i64 (of x)] (fun _ => True) (fun _ => False) rfl rfl rfl (fun _ hk => hk.elim) (fun _ _ => trivial) HO2.out HB3.out HB3.out.size ?aL ?_)))
      case aL => rw [List.length_map, List.length_take]; omega
      intro v5 w3 ho hb _ _
      have HO4 := Aside0.mk ho
      have HB4 := Aside0.mk hb
      clear ho hb
      go_wp2
      go_roundg (l0.length - (j + 1))
      case measure => omega
      case rel =>
        refine ⟨j + 1, by omega, by omega, by go_num, ⟨?_⟩, HB4⟩
        have e : (l0.take (j + 1)).map of = (l0.take j).map of ++ [of x] := by
          rw [HX.out]
          unfold rd_T25
          rw [Int.toNat_natCast, List.take_succ_eq_append_getElem hlt, List.map_append, List.getD_eq_getElem?_getD, List.getElem?_eq_getElem hlt]
          rfl
        rw [e]
        simpa only [List.map_take] using HO4.out
    · have e : j = l0.length := by omega
      subst e
      rw [List.take_length] at HO
      have hlt' : ¬ (l0.length : Int) < (l0.length : Int) := by omega
      obtain ⟨blk, cap, hv, hblk, hs⟩ := Md.medSort HO.out (by rw [List.length_map]; omega) (by rw [List.length_map]; omega)
      rw [List.length_map] at hv hs
      subst hv
      go_wp2_with (go_at_call 28; refine hs.mono ?_; rintro e w2 ⟨rfl, hc, hb2⟩)
      go_ret
      exact ⟨rfl, HB.out.trans hb2⟩
def median_middle_0.f (l0 : List S25) : Option Int := if 0 < l0.length then (if l0.length ≤ 7 then some (Md.midOf (l0.map S25.f0)) else none) else none
theorem median_middle_0.calls (A0 : Option Addr) (c0 : Nat) (l0 : List S25) (r : Int) (w : World) (hr0 : Kd.C k25 w A0 l0.length l0) (hc0 : l0.length ≤ c0) (h : median_middle_0.f l0 = some r) :
    Calls Try.prog 21 #[.slice A0 l0.length c0, .func (.func 22) #[] #[]] w fun e w' => e = .returned (.int .i64 r) ∧ Below w.heap.size w w' := by
  unfold median_middle_0.f at h
  by_cases hn : 0 < l0.length
  · rw [if_pos hn] at h
    by_cases hl : l0.length ≤ 7
    · rw [if_pos hl] at h
      cases h
      exact medMiddle _ (enters_of Try.func22 (by kernel_rfl) rfl) S25.f0 medOf0 hr0 hn hl
    · rw [if_neg hl] at h
      cases h
  · rw [if_neg hn] at h
    cases h

/-! ### median_middle_1: function 21, given -/
def median_middle_1.f (l0 : List S25) : Option Int := if 0 < l0.length then (if l0.length ≤ 7 then some (Md.midOf (l0.map S25.f1)) else none) else none
theorem median_middle_1.calls (A0 : Option Addr) (c0 : Nat) (l0 : List S25) (r : Int) (w : World) (hr0 : Kd.C k25 w A0 l0.length l0) (hc0 : l0.length ≤ c0) (h : median_middle_1.f l0 = some r) :
    Calls Try.prog 21 #[.slice A0 l0.length c0, .func (.func 23) #[] #[]] w fun e w' => e = .returned (.int .i64 r) ∧ Below w.heap.size w w' := by
  unfold median_middle_1.f at h
  by_cases hn : 0 < l0.length
  · rw [if_pos hn] at h
    by_cases hl : l0.length ≤ 7
    · rw [if_pos hl] at h
      cases h
      exact medMiddle _ (enters_of Try.func23 (by kernel_rfl) rfl) S25.f1 medOf1 hr0 hn hl
    · rw [if_neg hl] at h
      cases h
  · rw [if_neg hn] at h
    cases h

/-! ### median_middle_2: function 21, given -/
def median_middle_2.f (l0 : List S25) : Option Int := if 0 < l0.length then (if l0.length ≤ 7 then some (Md.midOf (l0.map S25.f2)) else none) else none
theorem median_middle_2.calls (A0 : Option Addr) (c0 : Nat) (l0 : List S25) (r : Int) (w : World) (hr0 : Kd.C k25 w A0 l0.length l0) (hc0 : l0.length ≤ c0) (h : median_middle_2.f l0 = some r) :
    Calls Try.prog 21 #[.slice A0 l0.length c0, .func (.func 24) #[] #[]] w fun e w' => e = .returned (.int .i64 r) ∧ Below w.heap.size w w' := by
  unfold median_middle_2.f at h
  by_cases hn : 0 < l0.length
  · rw [if_pos hn] at h
    by_cases hl : l0.length ≤ 7
    · rw [if_pos hl] at h
      cases h
      exact medMiddle _ (enters_of Try.func24 (by kernel_rfl) rfl) S25.f2 medOf2 hr0 hn hl
    · rw [if_neg hl] at h
      cases h
  · rw [if_neg hn] at h
    cases h

end Go.Proofs.Ytbicnidbffibbaa.PMedianOne
