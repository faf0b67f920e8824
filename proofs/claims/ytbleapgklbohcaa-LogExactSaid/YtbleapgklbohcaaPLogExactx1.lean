import Derived.Test.YtbleapgklbohcaaCut
import Derived.Test.YtbleapgklbohcaaPLogExactx0
namespace Go.Proofs.Ytbleapgklbohcaa.PLogExact
open Go.RowKit Go.Proofs.YtbleapgklbohcaaW.PrintWords Go.Proofs.YtbleapgklbohcaaW.PrintLast Go.Proofs.YtbleapgklbohcaaW.PrintMore
attribute [local go_sem] max2_int min2_int max_two min_two max_three min_three max_four min_four   -- for this text's walks alone
set_option linter.unusedVariables false
set_option linter.unusedSimpArgs false

/-! ### gimballaw30_heavy: function 6 -/
def gimballaw30_heavy.f (a0_0 : Int) (l0_1 : List Int) (a0_2 : Int) (a0_3 : Int) (l0_4 : List Int) (l0_5 : List (S25)) (a0_6 : Int) : Option (Bool) := if (l0_1.length : Int) > 500 then (some true) else (if (l0_4.length : Int) > 600 then (some true) else (some (decide ((l0_5.length : Int) > 60))))
set_option maxHeartbeats 8000000 in
set_option maxRecDepth 100000 in
theorem gimballaw30_heavy.calls (a0_0 : Int) (A0_1 : Option Addr) (c0_1 : Nat) (l0_1 : List Int) (a0_2 : Int) (a0_3 : Int) (A0_4 : Option Addr) (c0_4 : Nat) (l0_4 : List Int) (A0_5 : Option Addr) (c0_5 : Nat) (l0_5 : List (S25)) (a0_6 : Int) (r : Bool) (w : World) (hr0_1 : Kd.C (Kd.int .u8) w A0_1 l0_1.length l0_1) (hc0_1 : l0_1.length ≤ c0_1) (hr0_4 : Kd.C (Kd.int .u32) w A0_4 l0_4.length l0_4) (hc0_4 : l0_4.length ≤ c0_4) (hr0_5 : Kd.C k25 w A0_5 l0_5.length l0_5) (hc0_5 : l0_5.length ≤ c0_5) (h : gimballaw30_heavy.f a0_0 l0_1 a0_2 a0_3 l0_4 l0_5 a0_6 = some r) :
  Calls Try.prog 6 #[.agg #[.int .i64 a0_0, .slice A0_1 l0_1.length c0_1, .int .i64 a0_2, .int .u32 a0_3, .slice A0_4 l0_4.length c0_4, .slice A0_5 l0_5.length c0_5, .int .i64 a0_6]] w fun e w' => e = .returned (.bool r) ∧ Below w.heap.size w w' := by
 have hu30 := Try.underlying30
 have HR0_1 := Aside0.mk hr0_1
 have HC0_1 := Aside0.mk hc0_1
 clear hr0_1 hc0_1
 have HR0_4 := Aside0.mk hr0_4
 have HC0_4 := Aside0.mk hc0_4
 clear hr0_4 hc0_4
 have HR0_5 := Aside0.mk hr0_5
 have HC0_5 := Aside0.mk hc0_5
 clear hr0_5 hc0_5
 have HB := Aside0.mk (Below.refl w.heap.size w)
 have H : (if (l0_1.length : Int) > 500 then (some true) else (if (l0_4.length : Int) > 600 then (some true) else (some (decide ((l0_5.length : Int) > 60))))) = some r := h
 clear h
 by_cases c2 : (l0_1.length : Int) > 500
 ·rw [if_pos c2] at H
  have c2b0 : decide (500 < (l0_1.length : Int)) = true := decide_eq_true c2
  have c2b1 : decide (500 < l0_1.length) = true := decide_eq_true (by omega)
  clear c2
  obtain rfl := Option.some.inj H
  go_enter Try.func6, Try.ntmps6
  go_wp2_with (first | ((with_reducible refine gate_dst (N := 1) rfl ?_); (try (refine gate_guard (by rfl) ?_; dsimp only)); refine box_event ?hg (N := 1) ?hd (cs := #[.int .i64 a0_0, .slice A0_1 l0_1.length c0_1, .int .i64 a0_2, .int .u32 a0_3, .slice A0_4 l0_4.length c0_4, .slice A0_5 l0_5.length c0_5, .int .i64 a0_6]) (t := 30) ?hr ?_; (case hd => rfl); (case hg => rfl); (case hr => first | (go_simp; done) | (go_simp; rfl)); intro gb101 hg w3 hbox hb; have BK101 := Aside0.mk hbox; have GW101 := Sq.ge hg HB; have GE101 := Sq.ge hg HB; replace HB := Sq.sw HB hb; clear hb hbox hg; obtain ⟨z4_0, z4_1, z4_2, z4_3, z4_4, z4_5, z4_6⟩ := Sq.c7 BK101.out; obtain ⟨y4_0, y4_1, y4_2, y4_3, y4_4, y4_5, y4_6⟩ := Sq.f7 BK101.out))
  go_ret
  exact ⟨by first | rfl | (simp [errW_none, errW_some] <;> rfl) | (simp [*, errW_none, errW_some] <;> rfl), Sq.w HB.out⟩
 ·rw [if_neg c2] at H
  have c2b0 : decide (500 < (l0_1.length : Int)) = false := decide_eq_false c2
  have c2b1 : decide (500 < l0_1.length) = false := decide_eq_false (by omega)
  clear c2
  by_cases c5 : (l0_4.length : Int) > 600
  ·rw [if_pos c5] at H
   have c5b0 : decide (600 < (l0_4.length : Int)) = true := decide_eq_true c5
   have c5b1 : decide (600 < l0_4.length) = true := decide_eq_true (by omega)
   clear c5
   obtain rfl := Option.some.inj H
   go_enter Try.func6, Try.ntmps6
   go_wp2_with (first | ((with_reducible refine gate_dst (N := 1) rfl ?_); (try (refine gate_guard (by rfl) ?_; dsimp only)); refine box_event ?hg (N := 1) ?hd (cs := #[.int .i64 a0_0, .slice A0_1 l0_1.length c0_1, .int .i64 a0_2, .int .u32 a0_3, .slice A0_4 l0_4.length c0_4, .slice A0_5 l0_5.length c0_5, .int .i64 a0_6]) (t := 30) ?hr ?_; (case hd => rfl); (case hg => rfl); (case hr => first | (go_simp; done) | (go_simp; rfl)); intro gb101 hg w6 hbox hb; have BK101 := Aside0.mk hbox; have GW101 := Sq.ge hg HB; have GE101 := Sq.ge hg HB; replace HB := Sq.sw HB hb; clear hb hbox hg; obtain ⟨z7_0, z7_1, z7_2, z7_3, z7_4, z7_5, z7_6⟩ := Sq.c7 BK101.out; obtain ⟨y7_0, y7_1, y7_2, y7_3, y7_4, y7_5, y7_6⟩ := Sq.f7 BK101.out))
   go_ret
   exact ⟨by first | rfl | (simp [errW_none, errW_some] <;> rfl) | (simp [*, errW_none, errW_some] <;> rfl), Sq.w HB.out⟩
  ·rw [if_neg c5] at H
   have c5b0 : decide (600 < (l0_4.length : Int)) = false := decide_eq_false c5
   have c5b1 : decide (600 < l0_4.length) = false := decide_eq_false (by omega)
   clear c5
   obtain rfl := Option.some.inj H
   go_enter Try.func6, Try.ntmps6
   go_wp2_with (first | ((with_reducible refine gate_dst (N := 1) rfl ?_); (try (refine gate_guard (by rfl) ?_; dsimp only)); refine box_event ?hg (N := 1) ?hd (cs := #[.int .i64 a0_0, .slice A0_1 l0_1.length c0_1, .int .i64 a0_2, .int .u32 a0_3, .slice A0_4 l0_4.length c0_4, .slice A0_5 l0_5.length c0_5, .int .i64 a0_6]) (t := 30) ?hr ?_; (case hd => rfl); (case hg => rfl); (case hr => first | (go_simp; done) | (go_simp; rfl)); intro gb101 hg w8 hbox hb; have BK101 := Aside0.mk hbox; have GW101 := Sq.ge hg HB; have GE101 := Sq.ge hg HB; replace HB := Sq.sw HB hb; clear hb hbox hg; obtain ⟨z9_0, z9_1, z9_2, z9_3, z9_4, z9_5, z9_6⟩ := Sq.c7 BK101.out; obtain ⟨y9_0, y9_1, y9_2, y9_3, y9_4, y9_5, y9_6⟩ := Sq.f7 BK101.out))
   go_ret
   exact ⟨by first | rfl | (simp [errW_none, errW_some] <;> rfl) | (simp [*, errW_none, errW_some] <;> rfl), Sq.w HB.out⟩

/-! ### gimbalref29_MayEntry: function 7 -/
def gimbalref29_MayEntry.f (a0_0 : Int) (l0_1 : List Int) : Option (Bool) := if a0_0 ≥ 0 then (if a0_0 < 16 then (some (decide ((l0_1.length : Int) ≤ 24))) else (some false)) else (some false)
set_option maxHeartbeats 8000000 in
set_option maxRecDepth 100000 in
theorem gimbalref29_MayEntry.calls (a0_0 : Int) (A0_1 : Option Addr) (c0_1 : Nat) (l0_1 : List Int) (r : Bool) (w : World) (hr0_1 : Kd.C (Kd.int .u8) w A0_1 l0_1.length l0_1) (hc0_1 : l0_1.length ≤ c0_1) (h : gimbalref29_MayEntry.f a0_0 l0_1 = some r) :
  Calls Try.prog 7 #[.agg #[.int .i64 a0_0, .slice A0_1 l0_1.length c0_1]] w fun e w' => e = .returned (.bool r) ∧ Below w.heap.size w w' := by
 have hu25 := Try.underlying25
 have HR0_1 := Aside0.mk hr0_1
 have HC0_1 := Aside0.mk hc0_1
 clear hr0_1 hc0_1
 have HB := Aside0.mk (Below.refl w.heap.size w)
 have H : (if a0_0 ≥ 0 then (if a0_0 < 16 then (some (decide ((l0_1.length : Int) ≤ 24))) else (some false)) else (some false)) = some r := h
 clear h
 by_cases c2 : a0_0 ≥ 0
 ·rw [if_pos c2] at H
  have c2b0 : decide (0 ≤ a0_0) = true := decide_eq_true c2
  clear c2
  by_cases c3 : a0_0 < 16
  ·rw [if_pos c3] at H
   have c3b0 : decide (a0_0 < 16) = true := decide_eq_true c3
   clear c3
   obtain rfl := Option.some.inj H
   go_enter Try.func7, Try.ntmps7
   go_wp2_with (first | ((with_reducible refine gate_dst (N := 1) rfl ?_); (try (refine gate_guard (by rfl) ?_; dsimp only)); refine box_event ?hg (N := 1) ?hd (cs := #[.int .i64 a0_0, .slice A0_1 l0_1.length c0_1]) (t := 25) ?hr ?_; (case hd => rfl); (case hg => rfl); (case hr => first | (go_simp; done) | (go_simp; rfl)); intro gb102 hg w4 hbox hb; have BK102 := Aside0.mk hbox; have GW102 := Sq.ge hg HB; have GE102 := Sq.ge hg HB; replace HB := Sq.sw HB hb; clear hb hbox hg; obtain ⟨z5_0, z5_1⟩ := Sq.c2 BK102.out; obtain ⟨y5_0, y5_1⟩ := Sq.f2 BK102.out))
   go_ret
   exact ⟨by first | rfl | (simp [errW_none, errW_some] <;> rfl) | (simp [*, errW_none, errW_some] <;> rfl), Sq.w HB.out⟩
  ·rw [if_neg c3] at H
   have c3b0 : decide (a0_0 < 16) = false := decide_eq_false c3
   clear c3
   obtain rfl := Option.some.inj H
   go_enter Try.func7, Try.ntmps7
   go_wp2_with (first | ((with_reducible refine gate_dst (N := 1) rfl ?_); (try (refine gate_guard (by rfl) ?_; dsimp only)); refine box_event ?hg (N := 1) ?hd (cs := #[.int .i64 a0_0, .slice A0_1 l0_1.length c0_1]) (t := 25) ?hr ?_; (case hd => rfl); (case hg => rfl); (case hr => first | (go_simp; done) | (go_simp; rfl)); intro gb102 hg w6 hbox hb; have BK102 := Aside0.mk hbox; have GW102 := Sq.ge hg HB; have GE102 := Sq.ge hg HB; replace HB := Sq.sw HB hb; clear hb hbox hg; obtain ⟨z7_0, z7_1⟩ := Sq.c2 BK102.out; obtain ⟨y7_0, y7_1⟩ := Sq.f2 BK102.out))
   go_ret
   exact ⟨by first | rfl | (simp [errW_none, errW_some] <;> rfl) | (simp [*, errW_none, errW_some] <;> rfl), Sq.w HB.out⟩
 ·rw [if_neg c2] at H
  have c2b0 : decide (0 ≤ a0_0) = false := decide_eq_false c2
  clear c2
  obtain rfl := Option.some.inj H
  go_enter Try.func7, Try.ntmps7
  go_wp2_with (first | ((with_reducible refine gate_dst (N := 1) rfl ?_); (try (refine gate_guard (by rfl) ?_; dsimp only)); refine box_event ?hg (N := 1) ?hd (cs := #[.int .i64 a0_0, .slice A0_1 l0_1.length c0_1]) (t := 25) ?hr ?_; (case hd => rfl); (case hg => rfl); (case hr => first | (go_simp; done) | (go_simp; rfl)); intro gb102 hg w8 hbox hb; have BK102 := Aside0.mk hbox; have GW102 := Sq.ge hg HB; have GE102 := Sq.ge hg HB; replace HB := Sq.sw HB hb; clear hb hbox hg; obtain ⟨z9_0, z9_1⟩ := Sq.c2 BK102.out; obtain ⟨y9_0, y9_1⟩ := Sq.f2 BK102.out))
  go_ret
  exact ⟨by first | rfl | (simp [errW_none, errW_some] <;> rfl) | (simp [*, errW_none, errW_some] <;> rfl), Sq.w HB.out⟩

/-! ### log_Good: function 24 -/
def log_Good.f (a0_0 : Int) (l0_1 : List Int) : Option (Bool) := if a0_0 ≥ 0 then (if a0_0 < 16 then (some (decide ((l0_1.length : Int) ≤ 24))) else (some false)) else (some false)
set_option maxHeartbeats 8000000 in
set_option maxRecDepth 100000 in
theorem log_Good.calls (a0_0 : Int) (A0_1 : Option Addr) (c0_1 : Nat) (l0_1 : List Int) (r : Bool) (w : World) (hr0_1 : Kd.C (Kd.int .u8) w A0_1 l0_1.length l0_1) (hc0_1 : l0_1.length ≤ c0_1) (h : log_Good.f a0_0 l0_1 = some r) :
  Calls Try.prog 24 #[.agg #[.int .i64 a0_0, .slice A0_1 l0_1.length c0_1]] w fun e w' => e = .returned (.bool r) ∧ Below w.heap.size w w' := by
 have hu25 := Try.underlying25
 have HR0_1 := Aside0.mk hr0_1
 have HC0_1 := Aside0.mk hc0_1
 clear hr0_1 hc0_1
 have HB := Aside0.mk (Below.refl w.heap.size w)
 have H : (if a0_0 ≥ 0 then (if a0_0 < 16 then (some (decide ((l0_1.length : Int) ≤ 24))) else (some false)) else (some false)) = some r := h
 clear h
 by_cases c2 : a0_0 ≥ 0
 ·rw [if_pos c2] at H
  have c2b0 : decide (0 ≤ a0_0) = true := decide_eq_true c2
  clear c2
  by_cases c3 : a0_0 < 16
  ·rw [if_pos c3] at H
   have c3b0 : decide (a0_0 < 16) = true := decide_eq_true c3
   clear c3
   obtain rfl := Option.some.inj H
   go_enter Try.func24, Try.ntmps24
   go_wp2_with (first | ((with_reducible refine gate_dst (N := 1) rfl ?_); (try (refine gate_guard (by rfl) ?_; dsimp only)); refine box_event ?hg (N := 1) ?hd (cs := #[.int .i64 a0_0, .slice A0_1 l0_1.length c0_1]) (t := 25) ?hr ?_; (case hd => rfl); (case hg => rfl); (case hr => first | (go_simp; done) | (go_simp; rfl)); intro gb103 hg w4 hbox hb; have BK103 := Aside0.mk hbox; have GW103 := Sq.ge hg HB; have GE103 := Sq.ge hg HB; replace HB := Sq.sw HB hb; clear hb hbox hg; obtain ⟨z5_0, z5_1⟩ := Sq.c2 BK103.out; obtain ⟨y5_0, y5_1⟩ := Sq.f2 BK103.out))
   go_ret
   exact ⟨by first | rfl | (simp [errW_none, errW_some] <;> rfl) | (simp [*, errW_none, errW_some] <;> rfl), Sq.w HB.out⟩
  ·rw [if_neg c3] at H
   have c3b0 : decide (a0_0 < 16) = false := decide_eq_false c3
   clear c3
   obtain rfl := Option.some.inj H
   go_enter Try.func24, Try.ntmps24
   go_wp2_with (first | ((with_reducible refine gate_dst (N := 1) rfl ?_); (try (refine gate_guard (by rfl) ?_; dsimp only)); refine box_event ?hg (N := 1) ?hd (cs := #[.int .i64 a0_0, .slice A0_1 l0_1.length c0_1]) (t := 25) ?hr ?_; (case hd => rfl); (case hg => rfl); (case hr => first | (go_simp; done) | (go_simp; rfl)); intro gb103 hg w6 hbox hb; have BK103 := Aside0.mk hbox; have GW103 := Sq.ge hg HB; have GE103 := Sq.ge hg HB; replace HB := Sq.sw HB hb; clear hb hbox hg; obtain ⟨z7_0, z7_1⟩ := Sq.c2 BK103.out; obtain ⟨y7_0, y7_1⟩ := Sq.f2 BK103.out))
   go_ret
   exact ⟨by first | rfl | (simp [errW_none, errW_some] <;> rfl) | (simp [*, errW_none, errW_some] <;> rfl), Sq.w HB.out⟩
 ·rw [if_neg c2] at H
  have c2b0 : decide (0 ≤ a0_0) = false := decide_eq_false c2
  clear c2
  obtain rfl := Option.some.inj H
  go_enter Try.func24, Try.ntmps24
  go_wp2_with (first | ((with_reducible refine gate_dst (N := 1) rfl ?_); (try (refine gate_guard (by rfl) ?_; dsimp only)); refine box_event ?hg (N := 1) ?hd (cs := #[.int .i64 a0_0, .slice A0_1 l0_1.length c0_1]) (t := 25) ?hr ?_; (case hd => rfl); (case hg => rfl); (case hr => first | (go_simp; done) | (go_simp; rfl)); intro gb103 hg w8 hbox hb; have BK103 := Aside0.mk hbox; have GW103 := Sq.ge hg HB; have GE103 := Sq.ge hg HB; replace HB := Sq.sw HB hb; clear hb hbox hg; obtain ⟨z9_0, z9_1⟩ := Sq.c2 BK103.out; obtain ⟨y9_0, y9_1⟩ := Sq.f2 BK103.out))
  go_ret
  exact ⟨by first | rfl | (simp [errW_none, errW_some] <;> rfl) | (simp [*, errW_none, errW_some] <;> rfl), Sq.w HB.out⟩

-- NOT PRINTED: function 35 (crc_row)

-- NOT PRINTED: function 32 (crc_sum_uint32)

/-! ### crc_Words: function 25 -/
-- given
def crc_Words.f (l0 : List Int) : Option (Int) := some (sumW l0 l0.length)
theorem crc_Words.calls (A0 : Option Addr) (c0 : Nat) (l0 : List Int) (r : Int) (w : World) (hr0 : Kd.C (Kd.int .u32) w A0 l0.length l0) (hc0 : l0.length ≤ c0) (h : crc_Words.f l0 = some r) :
    Calls Try.prog 25 #[.slice A0 l0.length c0] w fun e w' => e = .returned (.int .u16 r) ∧ Below w.heap.size w w' := by
  cases h
  exact Words_any A0 c0 l0 w hr0 hc0

/-! ### log_Pack: function 8 -/
mutual
def log_Pack.l0 : Nat → List Int → Int → Int → List Int → Option (List Int × Int)
 | 0, _, _, _, _ => none
 | k + 1, x4, x5, x105000, x105001 => if x5 < (x105001.length : Int) then (log_Pack.l1 k x4 x5 0 x5 x105000 x105001) else ((crc_Words.f x4).bind fun t109 => (if x4.length < 35184372088832 then (some ((x4 ++ [(1124073472 + ((t109) % 4294967296)) % 4294967296]), 0)) else (none)))
def log_Pack.l1 : Nat → List Int → Int → Int → Int → Int → List Int → Option (List Int × Int)
 | 0, _, _, _, _, _, _ => none
 | k + 1, x4, x5, x6, x7, x105000, x105001 => if x7 < (wrap64 (x5 + 4)) then (if x7 < (x105001.length : Int) then (if 0 ≤ x7 then (log_Pack.l1 k x4 x5 (Go.bits .or .u32 ((x6 * 256) % 4294967296) ((rd x105001 x7) % 4294967296)) (wrap64 (x7 + 1)) x105000 x105001) else (none)) else (log_Pack.l1 k x4 x5 (Go.bits .or .u32 ((x6 * 256) % 4294967296) 255) (wrap64 (x7 + 1)) x105000 x105001)) else (if x4.length < 35184372088832 then (log_Pack.l0 k (x4 ++ [x6]) (wrap64 (x5 + 4)) x105000 x105001) else (none))
end
def log_Pack.f (k : Nat) (a0_0 : Int) (l0_1 : List Int) : Option (List Int × Int) := (log_Good.f a0_0 l0_1).bind fun t105 => (if t105 = true then (log_Pack.l0 k (([(((1375731712 + ((((a0_0) % 4294967296) * 256) % 4294967296)) % 4294967296) + (((l0_1.length : Int)) % 4294967296)) % 4294967296] : List Int)) 0 a0_0 l0_1) else (some (([] : List Int), 1)))
theorem log_Pack.mono_l : ∀ k, (∀ y0 y1 y2 y3, LeO (log_Pack.l0 k y0 y1 y2 y3) (log_Pack.l0 (k + 1) y0 y1 y2 y3)) ∧ (∀ y0 y1 y2 y3 y4 y5, LeO (log_Pack.l1 k y0 y1 y2 y3 y4 y5) (log_Pack.l1 (k + 1) y0 y1 y2 y3 y4 y5))
 | 0 => ⟨fun _ _ _ _ r h => by simp [log_Pack.l0] at h, fun _ _ _ _ _ _ r h => by simp [log_Pack.l1] at h⟩
 | k + 1 => by
  obtain ⟨ih0, ih1⟩ := log_Pack.mono_l k
  refine ⟨?_, ?_⟩
  ·intro y0 y1 y2 y3
   unfold log_Pack.l0
   repeat' first
   | (with_reducible exact ih0 _ _ _ _)
   | (with_reducible exact ih1 _ _ _ _ _ _)
   | (with_reducible exact LeO.refl _)
   | (with_reducible exact LeO.none _)
   | (with_reducible refine LeO.ite ?_ ?_)
   | (with_reducible refine LeO.bind ?_ (fun _ => ?_))
   | exact ih0 _ _ _ _
   | exact ih1 _ _ _ _ _ _
   | exact LeO.none _
   | refine LeO.ite ?_ ?_
   | refine LeO.bind ?_ (fun _ => ?_)
  ·intro y0 y1 y2 y3 y4 y5
   unfold log_Pack.l1
   repeat' first
   | (with_reducible exact ih0 _ _ _ _)
   | (with_reducible exact ih1 _ _ _ _ _ _)
   | (with_reducible exact LeO.refl _)
   | (with_reducible exact LeO.none _)
   | (with_reducible refine LeO.ite ?_ ?_)
   | (with_reducible refine LeO.bind ?_ (fun _ => ?_))
   | exact ih0 _ _ _ _
   | exact ih1 _ _ _ _ _ _
   | exact LeO.none _
   | refine LeO.ite ?_ ?_
   | refine LeO.bind ?_ (fun _ => ?_)
theorem log_Pack.mono : ∀ a0 a1 k, LeO (log_Pack.f k a0 a1) (log_Pack.f (k + 1) a0 a1) := by
 intro a0 a1 k
 obtain ⟨ih0, ih1⟩ := log_Pack.mono_l k
 unfold log_Pack.f
 repeat' first
   | (with_reducible exact ih0 _ _ _ _)
   | (with_reducible exact ih1 _ _ _ _ _ _)
   | (with_reducible exact LeO.refl _)
   | (with_reducible exact LeO.none _)
   | (with_reducible refine LeO.ite ?_ ?_)
   | (with_reducible refine LeO.bind ?_ (fun _ => ?_))
   | exact ih0 _ _ _ _
   | exact ih1 _ _ _ _ _ _
   | exact LeO.none _
   | refine LeO.ite ?_ ?_
   | refine LeO.bind ?_ (fun _ => ?_)
set_option maxHeartbeats 8000000 in
set_option maxRecDepth 100000 in
theorem log_Pack.calls (k : Nat) (a0_0 : Int) (A0_1 : Option Addr) (c0_1 : Nat) (l0_1 : List Int) (r1 : List Int) (r2 : Int) (w : World) (hr0_1 : Kd.C (Kd.int .u8) w A0_1 l0_1.length l0_1) (hc0_1 : l0_1.length ≤ c0_1) (h : log_Pack.f k a0_0 l0_1 = some (r1, r2)) :
  Calls Try.prog 8 #[.agg #[.int .i64 a0_0, .slice A0_1 l0_1.length c0_1]] w fun e w' => ∃ v0_ : Value, e = .returned (.tuple #[v0_, .int .i64 r2]) ∧ Kd.R (Kd.int .u32) 26 w' w.heap.size (fun _ => True) v0_ r1 ∧ Below w.heap.size w w' := by
 have hu25 := Try.underlying25
 have HR0_1 := Aside0.mk hr0_1
 have HC0_1 := Aside0.mk hc0_1
 clear hr0_1 hc0_1
 have HB := Aside0.mk (Below.refl w.heap.size w)
 have H : ((log_Good.f a0_0 l0_1).bind fun t105 => (if t105 = true then (log_Pack.l0 k (([(((1375731712 + ((((a0_0) % 4294967296) * 256) % 4294967296)) % 4294967296) + (((l0_1.length : Int)) % 4294967296)) % 4294967296] : List Int)) 0 a0_0 l0_1) else (some (([] : List Int), 1)))) = some (r1, r2) := h
 clear h
 replace H := Option.bind_eq_some_iff.mp H
 obtain ⟨t105, A20, H⟩ := H
 replace H : (if t105 = true then (log_Pack.l0 k (([(((1375731712 + ((((a0_0) % 4294967296) * 256) % 4294967296)) % 4294967296) + (((l0_1.length : Int)) % 4294967296)) % 4294967296] : List Int)) 0 a0_0 l0_1) else (some (([] : List Int), 1))) = some (r1, r2) := H
 have A2 := Aside0.mk A20
 clear A20
 by_cases c3 : t105 = true
 ·subst c3
  have H1 : (log_Pack.l0 k (([(((1375731712 + ((((a0_0) % 4294967296) * 256) % 4294967296)) % 4294967296) + (((l0_1.length : Int)) % 4294967296)) % 4294967296] : List Int)) 0 a0_0 l0_1) = some (r1, r2) := by rw [if_pos rfl] at H; exact H
  clear H
  have H := H1
  clear H1
  obtain ⟨y106, hy106⟩ : ∃ y_ : List Int, y_ = (([(((1375731712 + ((((a0_0) % 4294967296) * 256) % 4294967296)) % 4294967296) + (((l0_1.length : Int)) % 4294967296)) % 4294967296] : List Int)) := ⟨_, rfl⟩
  replace H : (log_Pack.l0 k y106 0 a0_0 l0_1) = some (r1, r2) := by first | (rw [hy106]; with_reducible exact H) | (have H2_ := (Option.bind_some _ _).symm.trans H; rw [hy106]; with_reducible exact H2_) | (have H2_ := (Option.bind_some _ _).symm.trans H; with_reducible exact H2_) | with_reducible exact H | (rw [hy106]; exact H) | exact H
  have Ny106 := Aside0.mk hy106
  clear hy106
  have H' := Aside0.mk H
  clear H
  go_enter Try.func8, Try.ntmps8
  go_wp2_with (first | ((with_reducible refine gate_dst (N := 1) rfl ?_); refine box_event ?hg (N := 1) ?hd (cs := #[.int .i64 a0_0, .slice A0_1 l0_1.length c0_1]) (t := 25) ?hr ?_; (case hd => rfl); (case hg => rfl); (case hr => first | (go_simp; done) | (go_simp; rfl)); intro gb104 hg w4 hbox hb; have BK104 := Aside0.mk hbox; have GW104 := Sq.ge hg HB; have GE104 := Sq.ge hg HB; replace HB := Sq.sw HB hb; clear hb hbox hg; obtain ⟨z5_0, z5_1⟩ := Sq.c2 BK104.out; obtain ⟨y5_0, y5_1⟩ := Sq.f2 BK104.out) | ((with_reducible refine gate_callee (f := 24) rfl ?_); refine goesL_ (some 10) rfl rfl Try.func24 (by kernel_rfl) rfl #[.agg #[.int .i64 a0_0, .slice A0_1 l0_1.length c0_1]] rfl Sq.m ?_; (with_reducible refine (log_Good.calls a0_0 _ _ l0_1 true _ ?side1 ?side2 A2.out).mono ?_); (case side1 => repeat (first | exact (Kd.C_below HR0_1.out HB.out) | (with_reducible refine Kd.C_alloc ?_ _) | (with_reducible refine Kd.C_drewN ?_ _) | (with_reducible refine Kd.C_drew ?_))); (case side2 => exact HC0_1.out); rintro e w6 ⟨rfl, hb⟩; refine ⟨_, rfl, ?_⟩; replace BK104 := Sq.sb BK104 hb; replace HB := Sq.sw HB hb; (try clear hb); (try clear hb2); (try clear hk); (try clear hi); obtain ⟨z7_0, z7_1⟩ := Sq.c2 BK104.out; obtain ⟨y7_0, y7_1⟩ := Sq.f2 BK104.out) | ((with_reducible refine gate_dst (N := 22) rfl ?_); refine Kd.R_lit (Kd.int .u32) _ 26 ?hg (N := 22) ?hd (xs := ([(((1375731712 + ((((a0_0) % 4294967296) * 256) % 4294967296)) % 4294967296) + (((l0_1.length : Int)) % 4294967296)) % 4294967296] : List Int)) (inner := [.int .u32 ((((1375731712 + ((((a0_0) % 4294967296) * 256) % 4294967296)) % 4294967296) + (((l0_1.length : Int)) % 4294967296)) % 4294967296)]) (ok := fun _ => True) (okp := fun _ => True) ?hr ?hp (fun _ hk => hk) trivial (Below.refl _ _) (Nat.le_refl _) (by simp) ?_; (case hd => rfl); (case hg => rfl); (case hr => first | (go_simp; done) | (go_simp; rfl)); (case hp => exact (Reps.one (show Kd.M (Kd.int .u32) _ _ _ ((((1375731712 + ((((a0_0) % 4294967296) * 256) % 4294967296)) % 4294967296) + (((l0_1.length : Int)) % 4294967296)) % 4294967296) [.int .u32 ((((1375731712 + ((((a0_0) % 4294967296) * 256) % 4294967296)) % 4294967296) + (((l0_1.length : Int)) % 4294967296)) % 4294967296)] from rfl) (Reps.none _ _))); intro v107 w8 ho9 hb hg_ hnew_; clear hg_ hnew_; (first | rw [← Ny106.out] at ho9 | (simp only [Int.reduceToNat] at ho9; rw [← Ny106.out] at ho9)); have HO108 := Aside0.mk (Kd.R_lower ho9 (below_size (Sq.w HB.out))); replace BK104 := Sq.sb BK104 hb; replace HB := Sq.sw HB hb; clear hb ho9))
  refine Cu.wp_loop (Cu.f :: Cu.f :: Cu.f :: Cu.f :: Cu.t :: Cu.t :: Cu.t :: Cu.t :: Cu.t :: Cu.f :: Cu.f :: Cu.f :: Cu.f :: Cu.f :: Cu.f :: Cu.f :: Cu.f :: Cu.f :: Cu.f :: Cu.f :: Cu.f :: Cu.f :: Cu.f :: Cu.t :: Cu.t :: Cu.t :: Cu.t :: Cu.t :: Cu.t :: Cu.t :: Cu.t :: Cu.t :: Cu.t :: Cu.t :: Cu.t :: Cu.t :: Cu.t :: Cu.t :: Cu.t :: Cu.t :: Cu.t :: Cu.t :: Cu.t :: Cu.t :: Cu.t :: Cu.t :: Cu.t :: Cu.t :: Cu.t :: Cu.t :: Cu.t :: Cu.t :: Cu.t :: Cu.t :: Cu.t :: Cu.t :: Cu.f :: Cu.f :: Cu.f :: Cu.f :: Cu.f :: Cu.f :: Cu.f :: []) 38 (fun kq us_ w' => ∃ (x4_1 : List Int) (x5_1 : Int), (Cu.nth us_ 1) = .int .i64 x5_1 ∧ Aside0 (log_Pack.l0 kq x4_1 x5_1 a0_0 l0_1 = some (r1, r2)) ∧ Aside0 (kq ≤ k) ∧ Aside0 (Kd.R (Kd.int .u32) 26 w' w.heap.size (fun _ => True) (Cu.nth us_ 0) x4_1) ∧ Aside0 (w'.heap[gb104]? = some (.cells #[.int .i64 a0_0, (.slice A0_1 l0_1.length c0_1)] 25 (0, 0))) ∧ Aside0 (Below w.heap.size w w')) k ?_ (by kernel_rfl) (by kernel_rfl) ?_
  · try dsimp only [Cu.pick, Cu.nth]
    exact ⟨(y106), (0), Sq.e, H', ⟨Nat.le_refl _⟩, ⟨Sq.rR HO108.out⟩, ⟨Sq.b BK104.out⟩, ⟨Sq.w HB.out⟩⟩
  ·
   intro gk wr u4 u5 u6 u7 u8 u23 u24 u25 u26 u27 u28 u29 u30 u31 u32 u33 u34 u35 u36 u37 u38 u39 u40 u41 u42 u43 u44 u45 u46 u47 u48 u49 u50 u51 u52 u53 u54 u55
   try dsimp only [Cu.over, Cu.nth]
   intro hrel _ _ _ _
   clear H'; (try clear c3); (try clear z5_0 z5_1); (try clear z7_0 z7_1); (try clear y5_0 y5_1); (try clear y7_0 y7_1)
   obtain ⟨x4_1, x5_1, rfl, HA, HK1, HO_4, BK104, HB⟩ := hrel
   cases gk with
   | zero => exact absurd HA.out (by simp [log_Pack.l0])
   | succ k1 =>
    have H := HA.out
    clear HA
    simp only [log_Pack.l0] at H
    by_cases c10 : x5_1 < (l0_1.length : Int)
    ·rw [if_pos c10] at H
     have c10b0 : decide (x5_1 < (l0_1.length : Int)) = true := decide_eq_true c10
     clear c10
     have H' := Aside0.mk H
     clear H
     obtain ⟨z11_0, z11_1⟩ := Sq.c2 BK104.out
     obtain ⟨y11_0, y11_1⟩ := Sq.f2 BK104.out
     go_wp2
     refine Cu.wp_loop (Cu.f :: Cu.f :: Cu.f :: Cu.f :: Cu.f :: Cu.f :: Cu.t :: Cu.t :: Cu.t :: Cu.f :: Cu.f :: Cu.f :: Cu.f :: Cu.f :: Cu.f :: Cu.f :: Cu.f :: Cu.f :: Cu.f :: Cu.f :: Cu.f :: Cu.f :: Cu.f :: Cu.f :: Cu.f :: Cu.f :: Cu.f :: Cu.f :: Cu.f :: Cu.f :: Cu.f :: Cu.t :: Cu.t :: Cu.t :: Cu.t :: Cu.t :: Cu.t :: Cu.t :: Cu.t :: Cu.t :: Cu.t :: Cu.t :: Cu.t :: Cu.t :: Cu.t :: Cu.t :: Cu.t :: Cu.t :: Cu.t :: Cu.t :: Cu.t :: Cu.t :: Cu.f :: Cu.f :: Cu.f :: Cu.f :: Cu.f :: Cu.f :: Cu.f :: Cu.f :: Cu.f :: Cu.f :: Cu.f :: []) 24 (fun kq us_ w' => ∃ (x6_2 : Int) (x7_2 : Int), (Cu.nth us_ 0) = .int .u32 x6_2 ∧ (Cu.nth us_ 1) = .int .i64 x7_2 ∧ Aside0 (log_Pack.l1 kq x4_1 x5_1 x6_2 x7_2 a0_0 l0_1 = some (r1, r2)) ∧ Aside0 (kq ≤ k1) ∧ Aside0 (Kd.R (Kd.int .u32) 26 w' w.heap.size (fun _ => True) u4 x4_1) ∧ Aside0 (w'.heap[gb104]? = some (.cells #[.int .i64 a0_0, (.slice A0_1 l0_1.length c0_1)] 25 (0, 0))) ∧ Aside0 (Below w.heap.size w w')) k1 ?_ (by kernel_rfl) (by kernel_rfl) ?_
     · try dsimp only [Cu.pick, Cu.nth]
       exact ⟨(0), (x5_1), Sq.e, Sq.e, H', ⟨Nat.le_refl _⟩, ⟨Sq.rR HO_4.out⟩, ⟨Sq.b BK104.out⟩, ⟨Sq.w HB.out⟩⟩
     ·
      intro gk wr u6 u7 u8 u31 u32 u33 u34 u35 u36 u37 u38 u39 u40 u41 u42 u43 u44 u45 u46 u47 u48 u49 u50 u51
      try dsimp only [Cu.over, Cu.nth]
      intro hrel _ _ _ _
      clear H'; (try clear c10b0); (try clear z11_0 z11_1); (try clear y11_0 y11_1)
      obtain ⟨x6_2, x7_2, rfl, rfl, HA, HK2, HO_4, BK104, HB⟩ := hrel
      cases gk with
      | zero => exact absurd HA.out (by simp [log_Pack.l1])
      | succ k2 =>
       have H := HA.out
       clear HA
       simp only [log_Pack.l1] at H
       by_cases c12 : x7_2 < (wrap64 (x5_1 + 4))
       ·rw [if_pos c12] at H
        have c12b0 : decide (x7_2 < (wrap64 (x5_1 + 4))) = true := decide_eq_true c12
        clear c12
        by_cases c13 : x7_2 < (l0_1.length : Int)
        ·rw [if_pos c13] at H
         have c13b0 : decide (x7_2 < (l0_1.length : Int)) = true := decide_eq_true c13
         clear c13
         by_cases c14 : 0 ≤ x7_2
         ·rw [if_pos c14] at H
          have c14b0 : decide (0 ≤ x7_2) = true := decide_eq_true c14
          clear c14
          have H' := Aside0.mk H
          clear H
          obtain ⟨z15_0, z15_1⟩ := Sq.c2 BK104.out
          obtain ⟨y15_0, y15_1⟩ := Sq.f2 BK104.out
          have p113 : 0 ≤ (x7_2 : Int) := of_decide_eq_true (by first | (with_reducible assumption) | assumption)
          have q113 : x7_2 < (l0_1.length : Int) := of_decide_eq_true (by first | (with_reducible assumption) | assumption)
          obtain ⟨ad113, e113, hx113_0⟩ := Kd.at_int HR0_1.out x7_2 p113 q113
          cases e113
          replace hx113_0 := (HB.out.cell (World.block_lt_of_cell? w _ hx113_0)).trans hx113_0
          replace p113 := eq_true p113
          replace q113 := eq_true q113
          go_wp2
          refine Cu.handed k2 (by have := HK1.out; have := HK2.out; omega) (by assumption) ?_ (by kernel_rfl) (by kernel_rfl)
          try dsimp only [Cu.pick, Cu.nth]
          exact ⟨(Go.bits .or .u32 ((x6_2 * 256) % 4294967296) ((rd l0_1 x7_2) % 4294967296)), (wrap64 (x7_2 + 1)), Sq.e, Sq.e, H', ⟨by have := HK1.out; have := HK2.out; omega⟩, ⟨Sq.rR HO_4.out⟩, ⟨Sq.b BK104.out⟩, ⟨Sq.w HB.out⟩⟩
         ·rw [if_neg c14] at H
          exact absurd H (by simp)
        ·rw [if_neg c13] at H
         have c13b0 : decide (x7_2 < (l0_1.length : Int)) = false := decide_eq_false c13
         clear c13
         have H' := Aside0.mk H
         clear H
         obtain ⟨z16_0, z16_1⟩ := Sq.c2 BK104.out
         obtain ⟨y16_0, y16_1⟩ := Sq.f2 BK104.out
         go_wp2
         refine Cu.handed k2 (by have := HK1.out; have := HK2.out; omega) (by assumption) ?_ (by kernel_rfl) (by kernel_rfl)
         try dsimp only [Cu.pick, Cu.nth]
         exact ⟨(Go.bits .or .u32 ((x6_2 * 256) % 4294967296) 255), (wrap64 (x7_2 + 1)), Sq.e, Sq.e, H', ⟨by have := HK1.out; have := HK2.out; omega⟩, ⟨Sq.rR HO_4.out⟩, ⟨Sq.b BK104.out⟩, ⟨Sq.w HB.out⟩⟩
       ·rw [if_neg c12] at H
        have c12b0 : decide (x7_2 < (wrap64 (x5_1 + 4))) = false := decide_eq_false c12
        clear c12
        by_cases c17 : x4_1.length < 35184372088832
        ·rw [if_pos c17] at H
         have LMc17 := Aside0.mk c17
         clear c17
         obtain ⟨y114, hy114⟩ : ∃ y_ : List Int, y_ = (x4_1 ++ [x6_2]) := ⟨_, rfl⟩
         replace H : (log_Pack.l0 k2 y114 (wrap64 (x5_1 + 4)) a0_0 l0_1) = some (r1, r2) := by first | (rw [hy114]; with_reducible exact H) | (have H2_ := (Option.bind_some _ _).symm.trans H; rw [hy114]; with_reducible exact H2_) | (have H2_ := (Option.bind_some _ _).symm.trans H; with_reducible exact H2_) | with_reducible exact H | (rw [hy114]; exact H) | exact H
         have Ny114 := Aside0.mk hy114
         clear hy114
         have H' := Aside0.mk H
         clear H
         go_wp2_with (first | ((with_reducible refine gate_builtin (b := .append) (xs := #[.tmp 52, .tmp 54]) rfl ?_); at_builtin; refine Kd.R_append (Kd.int .u32) (w0 := w) w.heap.size rfl (.tmp 52) (.tmp 54) 27 26 (.int .u32 0) 4 rfl Try.underlying27 info26 rfl (by decide) (by omega) u4 x4_1 x6_2 [_] (fun _ => True) (fun _ => False) rfl rfl ?aP (fun _ hk => hk.elim) ?aF ?aO ?aB ?aS ?aL ?_; (case aP => first | exact rfl | (show [_] = [_]; congr 2; omega) | simp); (case aB => exact (Sq.w HB.out)); (case aF => exact (fun _ _ => trivial)); (case aO => exact (Sq.rR HO_4.out)); (case aS => exact (below_size (Sq.w HB.out))); (case aL => have := LMc17.out; omega); intro v115 w18 ho hb hg hat; rw [← Ny114.out] at ho; have HO116 := Aside0.mk (ho); replace BK104 := Aside0.mk (blk_grown (g := gb104) (o := .cells #[.int .i64 a0_0, .slice A0_1 l0_1.length c0_1] 25 (0, 0)) (Sq.b BK104.out) hg (Kd.R_ne HO_4.out BK104.out (by decide))); replace HB := Aside0.mk (hb); clear HO_4; clear ho hb hg hat))
         refine Cu.handed k2 (by have := HK1.out; have := HK2.out; omega) (by assumption) ?_ (by kernel_rfl) (by kernel_rfl)
         try dsimp only [Cu.pick, Cu.nth]
         exact ⟨(y114), (wrap64 (x5_1 + 4)), Sq.e, H', ⟨by have := HK1.out; have := HK2.out; omega⟩, ⟨Sq.rR HO116.out⟩, ⟨Sq.b BK104.out⟩, ⟨Sq.w HB.out⟩⟩
        ·rw [if_neg c17] at H
         exact absurd H (by simp)
    ·rw [if_neg c10] at H
     have c10b0 : decide (x5_1 < (l0_1.length : Int)) = false := decide_eq_false c10
     clear c10
     replace H := Option.bind_eq_some_iff.mp H
     obtain ⟨t109, A190, H⟩ := H
     replace H : (if x4_1.length < 35184372088832 then (some ((x4_1 ++ [(1124073472 + ((t109) % 4294967296)) % 4294967296]), 0)) else (none)) = some (r1, r2) := H
     have A19 := Aside0.mk A190
     clear A190
     by_cases c20 : x4_1.length < 35184372088832
     ·rw [if_pos c20] at H
      have LMc20 := Aside0.mk c20
      clear c20
      obtain ⟨y110, hy110⟩ : ∃ y_ : List Int, y_ = (x4_1 ++ [(1124073472 + ((t109) % 4294967296)) % 4294967296]) := ⟨_, rfl⟩
      replace H : (some (y110, 0)) = some (r1, r2) := by first | (rw [hy110]; with_reducible exact H) | (have H2_ := (Option.bind_some _ _).symm.trans H; rw [hy110]; with_reducible exact H2_) | (have H2_ := (Option.bind_some _ _).symm.trans H; with_reducible exact H2_) | with_reducible exact H | (rw [hy110]; exact H) | exact H
      have Ny110 := Aside0.mk hy110
      clear hy110
      simp only [Option.some.injEq, Prod.mk.injEq] at H
      obtain ⟨rfl, rfl⟩ := H
      obtain ⟨z21_0, z21_1⟩ := Sq.c2 BK104.out
      obtain ⟨y21_0, y21_1⟩ := Sq.f2 BK104.out
      obtain ⟨Ao22, co22, eo22⟩ := Kd.R_slice HO_4.out
      subst eo22
      go_wp2_with (first | ((with_reducible refine gate_callee (f := 25) rfl ?_); refine goesL_ (some 58) rfl rfl Try.func25 (by kernel_rfl) rfl #[.slice Ao22 x4_1.length co22] rfl Sq.m ?_; (with_reducible refine (crc_Words.calls _ _ x4_1 t109 _ ?side1 ?side2 A19.out).mono ?_); (case side1 => repeat (first | exact (Kd.R_reads' HO_4.out).2.2 | (with_reducible refine Kd.C_alloc ?_ _) | (with_reducible refine Kd.C_drewN ?_ _) | (with_reducible refine Kd.C_drew ?_))); (case side2 => exact (Kd.R_reads' HO_4.out).2.1); rintro e w23 ⟨rfl, hb⟩; refine ⟨_, rfl, ?_⟩; replace HO_4 := Sq.sR HO_4 hb; replace BK104 := Sq.sb BK104 hb; replace HB := Sq.sw HB hb; (try clear hb); (try clear hb2); (try clear hk); (try clear hi)) | ((with_reducible refine gate_builtin (b := .append) (xs := #[.tmp 56, .tmp 61]) rfl ?_); at_builtin; refine Kd.R_append (Kd.int .u32) (w0 := w) w.heap.size rfl (.tmp 56) (.tmp 61) 27 26 (.int .u32 0) 4 rfl Try.underlying27 info26 rfl (by decide) (by omega) (.slice Ao22 x4_1.length co22) x4_1 ((1124073472 + ((t109) % 4294967296)) % 4294967296) [_] (fun _ => True) (fun _ => False) rfl rfl ?aP (fun _ hk => hk.elim) ?aF ?aO ?aB ?aS ?aL ?_; (case aP => first | exact rfl | (show [_] = [_]; congr 2; omega) | simp); (case aB => exact (Sq.w HB.out)); (case aF => exact (fun _ _ => trivial)); (case aO => exact (Sq.rR HO_4.out)); (case aS => exact (below_size (Sq.w HB.out))); (case aL => have := LMc20.out; omega); intro v111 w24 ho hb hg hat; rw [← Ny110.out] at ho; have HO112 := Aside0.mk (ho); replace BK104 := Aside0.mk (blk_grown (g := gb104) (o := .cells #[.int .i64 a0_0, .slice A0_1 l0_1.length c0_1] 25 (0, 0)) (Sq.b BK104.out) hg (Kd.R_ne HO_4.out BK104.out (by decide))); replace HB := Aside0.mk (hb); clear HO_4; clear ho hb hg hat))
      go_ret2
      exact ⟨_, by first | rfl | (simp [errW_none, errW_some] <;> rfl) | (simp [*, errW_none, errW_some] <;> rfl), by (with_reducible repeat (first | apply Kd.R_alloc | apply Kd.R_drewN | apply Kd.R_drew)); exact HO112.out, Sq.w HB.out⟩
     ·rw [if_neg c20] at H
      exact absurd H (by simp)
 ·replace c3 := Bool.eq_false_iff.mpr c3
  subst c3
  have H1 : (some (([] : List Int), 1)) = some (r1, r2) := by rw [if_neg (show ¬ (false = true) by decide)] at H; exact H
  clear H
  have H := H1
  clear H1
  simp only [Option.some.injEq, Prod.mk.injEq] at H
  obtain ⟨rfl, rfl⟩ := H
  go_enter Try.func8, Try.ntmps8
  go_wp2_with (first | ((with_reducible refine gate_dst (N := 1) rfl ?_); refine box_event ?hg (N := 1) ?hd (cs := #[.int .i64 a0_0, .slice A0_1 l0_1.length c0_1]) (t := 25) ?hr ?_; (case hd => rfl); (case hg => rfl); (case hr => first | (go_simp; done) | (go_simp; rfl)); intro gb104 hg w25 hbox hb; have BK104 := Aside0.mk hbox; have GW104 := Sq.ge hg HB; have GE104 := Sq.ge hg HB; replace HB := Sq.sw HB hb; clear hb hbox hg; obtain ⟨z26_0, z26_1⟩ := Sq.c2 BK104.out; obtain ⟨y26_0, y26_1⟩ := Sq.f2 BK104.out) | ((with_reducible refine gate_callee (f := 24) rfl ?_); refine goesL_ (some 10) rfl rfl Try.func24 (by kernel_rfl) rfl #[.agg #[.int .i64 a0_0, .slice A0_1 l0_1.length c0_1]] rfl Sq.m ?_; (with_reducible refine (log_Good.calls a0_0 _ _ l0_1 false _ ?side1 ?side2 A2.out).mono ?_); (case side1 => repeat (first | exact (Kd.C_below HR0_1.out HB.out) | (with_reducible refine Kd.C_alloc ?_ _) | (with_reducible refine Kd.C_drewN ?_ _) | (with_reducible refine Kd.C_drew ?_))); (case side2 => exact HC0_1.out); rintro e w27 ⟨rfl, hb⟩; refine ⟨_, rfl, ?_⟩; replace BK104 := Sq.sb BK104 hb; replace HB := Sq.sw HB hb; (try clear hb); (try clear hb2); (try clear hk); (try clear hi)))
  go_ret2
  exact ⟨_, by first | rfl | (simp [errW_none, errW_some] <;> rfl) | (simp [*, errW_none, errW_some] <;> rfl), by first | exact Kd.R_nil _ _ _ _ _ | exact Kd.N_nil _ _ _ _ _ | exact Kd.V_nil _ _ _ _ _ | exact Kd.Q_nil _ _ _ _ _ | exact Kd.S_nil _ _ _ _ _, Sq.w HB.out⟩

/-! ### gimballaw30_num: function 9 -/
def gimballaw30_num.f (a0 : Int) : Option (Int) := some a0
set_option maxHeartbeats 8000000 in
set_option maxRecDepth 100000 in
theorem gimballaw30_num.calls (a0 : Int) (r : Int) (w : World) (h : gimballaw30_num.f a0 = some r) :
  Calls Try.prog 9 #[.int .i64 a0] w fun e w' => e = .returned (.int .i64 r) ∧ Drawn0 w w' := by
 have H : (some a0) = some r := h
 clear h
 obtain rfl := Option.some.inj H
 go_enter Try.func9, Try.ntmps9
 go_wp2
 go_ret
 exact ⟨by first | rfl | (simp; done) | (simp [*]; done), by repeat (first | exact Drawn0.refl _ | apply Drawn0.step)⟩

-- NOT PRINTED: function 33 (log_reader_uint32_next)

-- NOT PRINTED: function 26 (log_entry)

/-! ### log_Scan: function 10 -/
-- given
def logMk (p : Int × List Int) : S25 := ⟨p.1, p.2⟩
def log_Scan.f (l0 : List Int) : Option ((List (S25)) × Int × Int) :=
  some (if l0.length = 256 then ((Lg.scanF l0 256 [] 1).1.map logMk, (Lg.scanF l0 256 [] 1).2, 0) else ([], 0, 1))
theorem logInfo : (Try.prog.info? 25).map (fun i => (i.zero, i.size, i.bytes)) = some (some (.agg #[(.int .i64 0), (.slice none 0 0)]), 2, 32) := by kernel_rfl
theorem logStop (l : List Int) (k : Nat) (es : List (Int × List Int)) (i : Int) (h : 256 ≤ i ∨ rd l i = 4294967295) : Lg.scanF l k es i = (es, i) := by
  cases k with
  | zero => rfl
  | succ k =>
    unfold Lg.scanF
    by_cases h1 : i < 256
    · rw [if_pos h1, if_pos (by rcases h with h | h; omega; exact h)]
    · rw [if_neg h1]
theorem logNo (l : List Int) (k : Nat) (es : List (Int × List Int)) (i : Int) (h1 : i < 256) (h2 : rd l i ≠ 4294967295) (h : Lg.isRec (rd l i) = false ∨ ¬ i + Lg.mOf (rd l i) ≤ 256) : Lg.scanF l (k + 1) es i = (es, 256) := by
  unfold Lg.scanF
  rw [if_pos h1, if_neg h2]
  by_cases h3 : Lg.isRec (rd l i) = true
  · rcases h with h | h
    · rw [h] at h3; cases h3
    · rw [if_pos h3, if_neg h]
  · rw [if_neg h3]
theorem logYes (l : List Int) (k : Nat) (es : List (Int × List Int)) (i : Int) (h1 : i < 256) (h2 : rd l i ≠ 4294967295) (h3 : Lg.isRec (rd l i) = true) (h4 : i + Lg.mOf (rd l i) ≤ 256) : Lg.scanF l (k + 1) es i = (if Lg.rightAt l i = true then Lg.scanF l k (es ++ [Lg.entryAt l i]) (i + Lg.mOf (rd l i)) else Lg.scanF l k es (i + Lg.mOf (rd l i))) := by
  conv => lhs; unfold Lg.scanF
  rw [if_pos h1, if_neg h2, if_pos h3, if_pos h4]
set_option maxHeartbeats 8000000 in
set_option maxRecDepth 100000 in
theorem log_Scan.calls (A0 : Option Addr) (c0 : Nat) (l0 : List Int) (r1 : List (S25)) (r2 : Int) (r3 : Int) (w : World) (hr0 : Kd.C (Kd.int .u32) w A0 l0.length l0) (hc0 : l0.length ≤ c0) (h : log_Scan.f l0 = some (r1, r2, r3)) :
    Calls Try.prog 10 #[.slice A0 l0.length c0] w fun e w' => ∃ v0_ : Value, e = .returned (.tuple #[v0_, .int .i64 r2, .int .i64 r3]) ∧ Kd.S k25 25 w' w.heap.size (fun _ => True) v0_ r1 ∧ Below w.heap.size w w' := by
  unfold log_Scan.f at h
  have h' := Option.some.inj h
  clear h
  by_cases hlen : l0.length = 256
  · rw [if_pos hlen] at h'
    obtain ⟨es1, hes⟩ : ∃ es1, es1 = Lg.scanF l0 256 [] 1 := ⟨_, rfl⟩
    rw [← hes] at h'
    obtain ⟨rfl, h2⟩ := Prod.mk.inj h'
    obtain ⟨rfl, rfl⟩ := Prod.mk.inj h2
    have hd : ((l0.length : Int) != 256) = false := bne_eq_false_iff_eq.mpr (by omega)
    have HR0 := Aside0.mk hr0
    have HC0 := Aside0.mk hc0
    have HLEN := Aside0.mk hlen
    have HES := Aside0.mk hes
    clear h' h2 hr0 hc0 hlen hes
    go_enter Try.func10, Try.ntmps10
    go_wp2
    go_loopg [2] 256 (fun kq v2 W => ∃ (es : List (Int × List Int)) (i : Int), Aside0 (Kd.S k25 25 W w.heap.size (fun k_ => k_ ≠ w.heap.size) v2 (es.map logMk)) ∧ Aside0 (W.heap[w.heap.size]? = some (.cells #[.slice A0 l0.length c0, .int .i64 i] 60 (0, 0))) ∧ Aside0 (Below w.heap.size w W) ∧ Aside0 (0 ≤ i ∧ i ≤ 256 ∧ (es.length : Int) ≤ i ∧ 256 ≤ i + kq) ∧ Aside0 (es1 = Lg.scanF l0 kq es i))
    case atStart => exact ⟨[], 1, ⟨Kd.S_nil _ _ _ _ _⟩, ⟨blk_new _ _⟩, ⟨(Below.refl _ _).alloc (Nat.le_refl _) _⟩, ⟨by simp⟩, HES⟩
    case round =>
      obtain ⟨es, i, HS, BK, HB, HI, HE⟩ := hrel
      obtain ⟨hi0, hi1, hlen, hik⟩ := HI.out
      have hs0 : wr.cell? ⟨w.heap.size, 0, none⟩ = some (.slice A0 l0.length c0) := (blk_cell BK.out 0).trans rfl
      have hs1 : wr.cell? ⟨w.heap.size, 1, none⟩ = some (.int .i64 i) := (blk_cell BK.out 1).trans rfl
      have HI0 := Aside0.mk hi0
      have HI1 := Aside0.mk hi1
      have HL := Aside0.mk hlen
      have HIK := Aside0.mk hik
      clear HI hi0 hi1 hlen hik
      by_cases c1 : i < 256
      · have c1b : decide (i < (l0.length : Int)) = true := decide_eq_true (by have := HLEN.out; omega)
        obtain ⟨ad, hA, hcg⟩ := Kd.at_int HR0.out i HI0.out (by have := HLEN.out; omega)
        subst hA
        have hcell : wr.cell? (ad.add i.toNat) = some (.int .u32 (rd l0 i)) := (HB.out.cell (World.block_lt_of_cell? _ _ hcg)).trans hcg
        have hi0' := eq_true HI0.out
        have hi1' : (i < (l0.length : Int)) = True := eq_true (by have := HLEN.out; omega)
        have C1 := Aside0.mk c1
        clear hcg c1
        by_cases c2 : rd l0 i = 4294967295
        · have c2b : (rd l0 i != 4294967295) = false := bne_eq_false_iff_eq.mpr c2
          have he := HE.out
          rw [logStop l0 gk es i (.inr c2)] at he
          subst he
          clear c2 HE
          go_wp2
          go_quiet (skip)
          go_wp2
          go_ret3
          exact ⟨_, rfl, Kd.S_mono (Kd.S_drewN HS.out _) (fun _ _ => trivial), pw_below_drewN HB.out _⟩
        · have c2b : (rd l0 i != 4294967295) = true := bne_iff_ne.mpr c2
          have C2 := Aside0.mk c2
          clear c2
          by_cases c3 : Lg.isRec (rd l0 i) = true
          · by_cases c4 : i + Lg.mOf (rd l0 i) ≤ 256
            · cases gk with
              | zero => exact absurd C1.out (by have := HIK.out; omega)
              | succ k1 =>
                have he := HE.out
                rw [logYes l0 k1 es i C1.out C2.out c3 c4] at he
                have HE2 := Aside0.mk he
                have C3 := Aside0.mk c3
                have C4 := Aside0.mk c4
                clear HE he c3 c4
                obtain ⟨i2, hi2⟩ : ∃ i2, i2 = i + Lg.mOf (rd l0 i) := ⟨_, rfl⟩
                obtain ⟨wg, hwg⟩ : ∃ wg, wg = wr.setCell ⟨w.heap.size, 1, none⟩ (.int .i64 (i + Lg.mOf (rd l0 i))) := ⟨_, rfl⟩
                have BKG : Aside0 (wg.heap[w.heap.size]? = some (.cells #[.slice (some ad) l0.length c0, .int .i64 i2] 60 (0, 0))) := ⟨by rw [hwg, hi2]; exact blk_put BK.out 1 _ rfl⟩
                have HBG : Aside0 (Below w.heap.size w wg) := ⟨by rw [hwg]; exact below_set HB.out (Nat.le_refl _)⟩
                have HSG : Aside0 (Kd.S k25 25 wg w.heap.size (fun k_ => k_ ≠ w.heap.size) u2 (es.map logMk)) := ⟨by rw [hwg]; exact Kd.S_far (p := ⟨w.heap.size, 1, none⟩) HS.out (fun _ hk => hk) _⟩
                have HSZ : Aside0 (wr.heap.size = wg.heap.size) := ⟨by rw [hwg]; simp [World.setCell]⟩
                have HWG := Aside0.mk hwg
                have HI2 := Aside0.mk hi2
                clear hwg hi2
                have HBR := HB
                clear HB
                by_cases c5 : Lg.rightAt l0 i = true
                · have he2 := HE2.out
                  rw [if_pos c5] at he2
                  have HE3 := Aside0.mk he2
                  clear HE2 he2
                  go_wp2_with (first | (go_at_call 26; refine (Lg.entry_at w.heap.size (some ad) c0 l0 i _ w wg HBR.out (Nat.le_refl _) HWG.out BK.out HR0.out HC0.out HI0.out HI1.out C3.out (by have := HLEN.out; have := C4.out; omega)).mono ?_; rintro e w1 ⟨v, rfl, hv, hb⟩; obtain ⟨Av, cv, ev⟩ := Kd.R_slice hv; obtain ⟨nv, hnv⟩ : ∃ nv, nv = (Lg.entryAt l0 i).2.length := ⟨_, rfl⟩; rw [← hnv] at ev; clear hnv; subst ev; have HV := Aside0.mk hv; have HB1 := Aside0.mk (show Below wg.heap.size wg w1 from HSZ.out ▸ hb); have HVB := Aside0.mk (show ∀ k, (Value.slice Av nv cv).ownBlock = some k → wg.heap.size ≤ k from HSZ.out ▸ Kd.R_base hv); have HS1 := Aside0.mk (Kd.S_mono (ok' := fun k_ => k_ ≠ w.heap.size ∧ k_ < wg.heap.size) (Kd.S_below (Kd.S_bound HSG.out) HB1.out) (fun k hk => ⟨hk.1, hk.2.2.1⟩)); have HB2 := Aside0.mk (HBG.out.trans (HB1.out.mono HBG.out.size)); have BK1 := Aside0.mk (blk_below BKG.out HB1.out); have LT1 := Aside0.mk (show w.heap.size < w1.heap.size from blk_lt BK1.out); have LT2 := Aside0.mk (show w.heap.size < wg.heap.size from blk_lt BKG.out); have LT3 := Aside0.mk (show wg.heap.size ≤ w1.heap.size from HB1.out.size); clear hv hb) | ((with_reducible refine gate_builtin (b := .append) (xs := #[.tmp 51, .tmp 53]) rfl ?_); at_builtin; refine Aside0.out ?_))
                  refine Aside0.mk ?_
                  refine Kd.S_append k25 (w0 := w) w.heap.size rfl (.tmp 51) (.tmp 53) 28 25 (.agg #[(.int .i64 0), (.slice none 0 0)]) 32 rfl Try.underlying28 logInfo rfl (by decide) (by omega) u2 (es.map logMk) (⟨Lg.keyOf (rd l0 i), (Lg.entryAt l0 i).2⟩ : S25) [.int .i64 (Lg.keyOf (rd l0 i)), .slice Av nv cv] (fun k_ => k_ ≠ w.heap.size) (fun k_ => some k_ = (.slice Av nv cv : Value).ownBlock) ?aS1 ?aS2 ?aP (fun k_ hk_ => ⟨fun e_ => absurd (HVB.out k_ hk_.symm) (by have := LT2.out; omega), fun e_ => absurd (HVB.out k_ hk_.symm) (Nat.not_le.2 ((Kd.S_R HS1.out).1 k_ e_.symm).2)⟩) ?aF ?aO ?aB ?aS ?aL ?_
                  case aS1 => rfl
                  case aS2 =>
                    first | rfl | (simp [Act.eval]; done)
                  case aP => exact k25_mkM _ _ _ (⟨Lg.keyOf (rd l0 i), (Lg.entryAt l0 i).2⟩ : S25) (Kd.R_alloc (Kd.R_tight rfl (Kd.R_lower HV.out HBR.out.size)) _)
                  case aF => exact fun k_ hk_ e_ => by have := LT1.out; simp only [World.size_alloc] at hk_; omega
                  case aO => exact Kd.S_alloc (Kd.S_mono HS1.out (fun k_ hk_ => ⟨hk_.1, fun e_ => absurd (HVB.out k_ e_.symm) (Nat.not_le.2 hk_.2)⟩)) _
                  case aB => exact below_alloc HB2.out _
                  case aS => simp only [World.size_alloc]; have := LT1.out; omega
                  case aL => rw [List.length_map]; have := HL.out; have := HI1.out; omega
                  intro v1 w2 ho hb2 hgr hat
                  have BK2 := Aside0.mk (blk_grown (blk_alloc BK1.out _) hgr (Kd.S_away HS1.out (fun _ hk => hk.1)))
                  have HO2 := Aside0.mk ho
                  have HB3 := Aside0.mk hb2
                  clear ho hb2 hgr hat
                  go_wp2
                  go_roundg k1
                  case measure => omega
                  case rel =>
                    have hm := Lg.mOf_le C3.out
                    refine ⟨es ++ [Lg.entryAt l0 i], i2, ⟨?_⟩, ⟨?_⟩, ⟨?_⟩, ⟨?_⟩, ⟨?_⟩⟩
                    · rw [List.map_append]; exact HO2.out
                    · exact BK2.out
                    · exact HB3.out
                    · rw [List.length_append, List.length_singleton]; have := HI0.out; have := HIK.out; have := HL.out; have := C4.out; have := HI2.out; omega
                    · rw [HI2.out]; exact HE3.out
                · have c5b : Lg.rightAt l0 i = false := Bool.eq_false_iff.2 c5
                  clear c5
                  have he2 := HE2.out
                  rw [c5b, if_neg (by decide)] at he2
                  have HE3 := Aside0.mk he2
                  clear HE2 he2
                  go_wp2_with (go_at_call 26; refine (Lg.entry_at w.heap.size (some ad) c0 l0 i _ w wg HBR.out (Nat.le_refl _) HWG.out BK.out HR0.out HC0.out HI0.out HI1.out C3.out (by have := HLEN.out; have := C4.out; omega)).mono ?_; rintro e w1 ⟨v, rfl, hv, hb⟩; obtain ⟨Av, cv, ev⟩ := Kd.R_slice hv; obtain ⟨nv, hnv⟩ : ∃ nv, nv = (Lg.entryAt l0 i).2.length := ⟨_, rfl⟩; rw [← hnv] at ev; clear hnv; subst ev; have HV := Aside0.mk hv; have HB1 := Aside0.mk (show Below wg.heap.size wg w1 from HSZ.out ▸ hb); clear hv hb)
                  go_roundg k1
                  case measure => omega
                  case rel =>
                    have hm := Lg.mOf_le C3.out
                    refine ⟨es, i2, ⟨?_⟩, ⟨?_⟩, ⟨?_⟩, ⟨?_⟩, ⟨?_⟩⟩
                    · (with_reducible repeat (first | apply Kd.S_alloc | apply Kd.S_drewN | apply Kd.S_drew)); exact Kd.S_below HSG.out HB1.out
                    · (with_reducible repeat (first | refine blk_drewN ?_ _ | refine blk_drew ?_ | refine blk_alloc ?_ _)); exact blk_below BKG.out HB1.out
                    · repeat (first | exact HBG.out.trans (HB1.out.mono HBG.out.size) | apply below_alloc)
                    · have := HI0.out; have := HIK.out; have := HL.out; have := C4.out; have := HI2.out; omega
                    · rw [HI2.out]; exact HE3.out
            · have he := HE.out
              cases gk with
              | zero => exact absurd C1.out (by have := HIK.out; omega)
              | succ k1 =>
                rw [logNo l0 k1 es i C1.out C2.out (.inr c4)] at he
                subst he
                have C3 := Aside0.mk c3
                have C4 := Aside0.mk c4
                clear HE c3 c4
                go_wp2_with (go_at_call 26; refine (Lg.entry_short_at w.heap.size (some ad) c0 l0 i _ BK.out HI0.out HI1.out C3.out (by have := HLEN.out; have := C4.out; omega)).mono ?_; rintro e w1 ⟨rfl, hb⟩)
                go_ret3
                refine ⟨u2, ?_, ?_, ?_⟩
                · show Ending.returned (.tuple #[u2, .int .i64 (l0.length : Int), .int .i64 0]) = _
                  rw [HLEN.out]
                  rfl
                · exact Kd.S_mono (ok := fun k_ => k_ ≠ w.heap.size) (by (with_reducible repeat (first | apply Kd.S_alloc | apply Kd.S_drewN | apply Kd.S_drew)); exact Kd.S_below HS.out hb) (fun _ _ => trivial)
                · repeat (first | exact HB.out.trans (hb.mono HB.out.size) | apply below_alloc)
          · have he := HE.out
            have HN3 : ¬ (Go.bits .and .u32 (rd l0 i) 4278190080 = 1375731712 ∧ Lg.keyOf (rd l0 i) < 16 ∧ Lg.nOf (rd l0 i) ≤ 24) := by unfold Lg.isRec at c3; simpa using c3
            have HN := Aside0.mk HN3
            cases gk with
            | zero => exact absurd C1.out (by have := HIK.out; omega)
            | succ k1 =>
              rw [logNo l0 k1 es i C1.out C2.out (.inl (Bool.eq_false_iff.2 c3))] at he
              subst he
              clear HE c3 HN3
              go_wp2_with (go_at_call 26; refine (Lg.entry_no w.heap.size (rd l0 i) (Lg.keyOf (rd l0 i)) (Lg.nOf (rd l0 i)) _ (Lg.bits32_w _ _ _) (Lg.bits32_w _ _ _) HN.out).mono ?_; rintro e w1 ⟨rfl, hb⟩)
              go_ret3
              refine ⟨u2, ?_, ?_, ?_⟩
              · show Ending.returned (.tuple #[u2, .int .i64 (l0.length : Int), .int .i64 0]) = _
                rw [HLEN.out]
                rfl
              · exact Kd.S_mono (ok := fun k_ => k_ ≠ w.heap.size) (by (with_reducible repeat (first | apply Kd.S_alloc | apply Kd.S_drewN | apply Kd.S_drew)); exact Kd.S_below HS.out hb) (fun _ _ => trivial)
              · repeat (first | exact HB.out.trans (hb.mono HB.out.size) | apply below_alloc)
      · have c1b : decide (i < (l0.length : Int)) = false := decide_eq_false (by have := HLEN.out; omega)
        have he := HE.out
        rw [logStop l0 gk es i (.inl (by omega))] at he
        subst he
        clear c1 HE
        go_wp2
        go_quiet (skip)
        go_wp2
        go_ret3
        exact ⟨_, rfl, Kd.S_mono (Kd.S_drewN HS.out _) (fun _ _ => trivial), pw_below_drewN HB.out _⟩
  · rw [if_neg hlen] at h'
    obtain ⟨rfl, h2⟩ := Prod.mk.inj h'
    obtain ⟨rfl, rfl⟩ := Prod.mk.inj h2
    have hd : ((l0.length : Int) != 256) = true := bne_iff_ne.mpr (by omega)
    clear h' h2 hlen
    go_enter Try.func10, Try.ntmps10
    go_wp2
    go_ret3
    exact ⟨_, rfl, Kd.S_nil _ _ _ _ _, Below.refl _ _⟩

/-! ### gimbalref0_EqBytes: function 27 -/
def gimbalref0_EqBytes.l0 : Nat → List Int → List Int → Int → Option (Bool)
 | 0, _, _, _ => none
 | k + 1, x0, x1, x5 => if x5 < (x0.length : Int) then (if 0 ≤ x5 then (if x5 < (x1.length : Int) then (if (rd x0 x5) = (rd x1 x5) then (gimbalref0_EqBytes.l0 k x0 x1 (wrap64 (x5 + 1))) else (some false)) else (none)) else (none)) else (some true)
def gimbalref0_EqBytes.f (k : Nat) (l0 : List Int) (l1 : List Int) : Option (Bool) := if (l0.length : Int) = (l1.length : Int) then (gimbalref0_EqBytes.l0 k l0 l1 0) else (some false)
theorem gimbalref0_EqBytes.mono_l : ∀ k, (∀ y0 y1 y2, LeO (gimbalref0_EqBytes.l0 k y0 y1 y2) (gimbalref0_EqBytes.l0 (k + 1) y0 y1 y2))
 | 0 => fun _ _ _ r h => by simp [gimbalref0_EqBytes.l0] at h
 | k + 1 => by
  have ih0 := gimbalref0_EqBytes.mono_l k
  ·intro y0 y1 y2
   unfold gimbalref0_EqBytes.l0
   repeat' first
   | (with_reducible exact ih0 _ _ _)
   | (with_reducible exact LeO.refl _)
   | (with_reducible exact LeO.none _)
   | (with_reducible refine LeO.ite ?_ ?_)
   | (with_reducible refine LeO.bind ?_ (fun _ => ?_))
   | exact ih0 _ _ _
   | exact LeO.none _
   | refine LeO.ite ?_ ?_
   | refine LeO.bind ?_ (fun _ => ?_)
theorem gimbalref0_EqBytes.mono : ∀ a0 a1 k, LeO (gimbalref0_EqBytes.f k a0 a1) (gimbalref0_EqBytes.f (k + 1) a0 a1) := by
 intro a0 a1 k
 have ih0 := gimbalref0_EqBytes.mono_l k
 unfold gimbalref0_EqBytes.f
 repeat' first
   | (with_reducible exact ih0 _ _ _)
   | (with_reducible exact LeO.refl _)
   | (with_reducible exact LeO.none _)
   | (with_reducible refine LeO.ite ?_ ?_)
   | (with_reducible refine LeO.bind ?_ (fun _ => ?_))
   | exact ih0 _ _ _
   | exact LeO.none _
   | refine LeO.ite ?_ ?_
   | refine LeO.bind ?_ (fun _ => ?_)
set_option maxHeartbeats 8000000 in
set_option maxRecDepth 100000 in
theorem gimbalref0_EqBytes.calls (k : Nat) (A0 : Option Addr) (c0 : Nat) (l0 : List Int) (A1 : Option Addr) (c1 : Nat) (l1 : List Int) (r : Bool) (w : World) (hr0 : Kd.C (Kd.int .u8) w A0 l0.length l0) (hc0 : l0.length ≤ c0) (hr1 : Kd.C (Kd.int .u8) w A1 l1.length l1) (hc1 : l1.length ≤ c1) (h : gimbalref0_EqBytes.f k l0 l1 = some r) :
  Calls Try.prog 27 #[.slice A0 l0.length c0, .slice A1 l1.length c1] w fun e w' => e = .returned (.bool r) ∧ Drawn0 w w' := by
 have HR0 := Aside0.mk hr0
 have HC0 := Aside0.mk hc0
 clear hr0 hc0
 have HR1 := Aside0.mk hr1
 have HC1 := Aside0.mk hc1
 clear hr1 hc1
 have H : (if (l0.length : Int) = (l1.length : Int) then (gimbalref0_EqBytes.l0 k l0 l1 0) else (some false)) = some r := h
 clear h
 by_cases c3 : (l0.length : Int) = (l1.length : Int)
 ·rw [if_pos c3] at H
  have c3b0 : ((l0.length : Int) == (l1.length : Int)) = true := beq_iff_eq.mpr c3
  have c3b1 : ((l0.length : Int) != (l1.length : Int)) = false := bne_eq_false_iff_eq.mpr c3
  have c3b2 : (l0.length == l1.length) = true := by first | simpa using c3 | (simp at c3 ⊢; omega)
  clear c3
  have H' := Aside0.mk H
  clear H
  go_enter Try.func27, Try.ntmps27
  go_wp2
  repeat (go_quiet (fail); try go_wp2)
  refine Cu.wp_loop (Cu.f :: Cu.f :: Cu.f :: Cu.f :: Cu.t :: Cu.t :: Cu.f :: Cu.f :: Cu.f :: Cu.f :: Cu.f :: Cu.t :: Cu.t :: Cu.t :: Cu.t :: Cu.t :: Cu.t :: Cu.t :: Cu.t :: Cu.t :: Cu.t :: Cu.t :: Cu.t :: Cu.t :: Cu.t :: Cu.t :: []) 17 (fun kq us_ w' => ∃ (x5_1 : Int), (Cu.nth us_ 1) = .int .i64 x5_1 ∧ Aside0 (gimbalref0_EqBytes.l0 kq l0 l1 x5_1 = some r) ∧ Aside0 (kq ≤ k) ∧ Drawn0 w w') k ?_ (by kernel_rfl) (by kernel_rfl) ?_
  · try dsimp only [Cu.pick, Cu.nth]
    exact ⟨(0), Sq.e, H', ⟨Nat.le_refl _⟩, by repeat (first | exact Drawn0.refl _ | apply Drawn0.step)⟩
  ·
   intro gk wr u4 u5 u11 u12 u13 u14 u15 u16 u17 u18 u19 u20 u21 u22 u23 u24 u25
   try dsimp only [Cu.over, Cu.nth]
   intro hrel _ _ _ _
   clear H'; (try clear c3b0); (try clear c3b1); (try clear c3b2)
   obtain ⟨x5_1, rfl, HA, HK1, ⟨m1, rfl⟩⟩ := hrel
   cases gk with
   | zero => exact absurd HA.out (by simp [gimbalref0_EqBytes.l0])
   | succ k1 =>
    have H := HA.out
    clear HA
    simp only [gimbalref0_EqBytes.l0] at H
    by_cases c4 : x5_1 < (l0.length : Int)
    ·rw [if_pos c4] at H
     have c4b0 : decide (x5_1 < (l0.length : Int)) = true := decide_eq_true c4
     clear c4
     by_cases c5 : 0 ≤ x5_1
     ·rw [if_pos c5] at H
      have c5b0 : decide (0 ≤ x5_1) = true := decide_eq_true c5
      clear c5
      by_cases c6 : x5_1 < (l1.length : Int)
      ·rw [if_pos c6] at H
       have c6b0 : decide (x5_1 < (l1.length : Int)) = true := decide_eq_true c6
       clear c6
       by_cases c7 : (rd l0 x5_1) = (rd l1 x5_1)
       ·rw [if_pos c7] at H
        have c7b0 : ((rd l0 x5_1) == (rd l1 x5_1)) = true := beq_iff_eq.mpr c7
        have c7b1 : ((rd l0 x5_1) != (rd l1 x5_1)) = false := bne_eq_false_iff_eq.mpr c7
        clear c7
        have H' := Aside0.mk H
        clear H
        have p118 : 0 ≤ (x5_1 : Int) := of_decide_eq_true (by first | (with_reducible assumption) | assumption)
        have q118 : x5_1 < (l0.length : Int) := of_decide_eq_true (by first | (with_reducible assumption) | assumption)
        obtain ⟨ad118, e118, hx118_0⟩ := Kd.at_int HR0.out x5_1 p118 q118
        cases e118
        replace p118 := eq_true p118
        replace q118 := eq_true q118
        have p119 : 0 ≤ (x5_1 : Int) := of_decide_eq_true (by first | (with_reducible assumption) | assumption)
        have q119 : x5_1 < (l1.length : Int) := of_decide_eq_true (by first | (with_reducible assumption) | assumption)
        obtain ⟨ad119, e119, hx119_0⟩ := Kd.at_int HR1.out x5_1 p119 q119
        cases e119
        replace p119 := eq_true p119
        replace q119 := eq_true q119
        go_wp2
        repeat (go_quiet (fail); try go_wp2)
        refine Cu.handed k1 (by have := HK1.out; omega) (by assumption) ?_ (by kernel_rfl) (by kernel_rfl)
        try dsimp only [Cu.pick, Cu.nth]
        exact ⟨(wrap64 (x5_1 + 1)), Sq.e, H', ⟨by have := HK1.out; omega⟩, by repeat (first | exact Drawn0.refl _ | apply Drawn0.step)⟩
       ·rw [if_neg c7] at H
        have c7b0 : ((rd l0 x5_1) == (rd l1 x5_1)) = false := beq_eq_false_iff_ne.mpr c7
        have c7b1 : ((rd l0 x5_1) != (rd l1 x5_1)) = true := bne_iff_ne.mpr c7
        obtain rfl := Option.some.inj H
        have p118 : 0 ≤ (x5_1 : Int) := of_decide_eq_true (by first | (with_reducible assumption) | assumption)
        have q118 : x5_1 < (l0.length : Int) := of_decide_eq_true (by first | (with_reducible assumption) | assumption)
        obtain ⟨ad118, e118, hx118_0⟩ := Kd.at_int HR0.out x5_1 p118 q118
        cases e118
        replace p118 := eq_true p118
        replace q118 := eq_true q118
        have p119 : 0 ≤ (x5_1 : Int) := of_decide_eq_true (by first | (with_reducible assumption) | assumption)
        have q119 : x5_1 < (l1.length : Int) := of_decide_eq_true (by first | (with_reducible assumption) | assumption)
        obtain ⟨ad119, e119, hx119_0⟩ := Kd.at_int HR1.out x5_1 p119 q119
        cases e119
        replace p119 := eq_true p119
        replace q119 := eq_true q119
        go_wp2
        repeat (go_quiet (fail); try go_wp2)
        go_ret
        exact ⟨by first | rfl | (simp; done) | (simp [*]; done), by repeat (first | exact Drawn0.refl _ | apply Drawn0.step)⟩
      ·rw [if_neg c6] at H
       exact absurd H (by simp)
     ·rw [if_neg c5] at H
      exact absurd H (by simp)
    ·rw [if_neg c4] at H
     have c4b0 : decide (x5_1 < (l0.length : Int)) = false := decide_eq_false c4
     clear c4
     obtain rfl := Option.some.inj H
     go_wp2
     repeat (go_quiet (fail); try go_wp2)
     go_ret
     exact ⟨by first | rfl | (simp; done) | (simp [*]; done), by repeat (first | exact Drawn0.refl _ | apply Drawn0.step)⟩
 ·rw [if_neg c3] at H
  have c3b0 : ((l0.length : Int) == (l1.length : Int)) = false := beq_eq_false_iff_ne.mpr c3
  have c3b1 : ((l0.length : Int) != (l1.length : Int)) = true := bne_iff_ne.mpr c3
  have c3b2 : (l0.length == l1.length) = false := by first | simpa using c3 | (simp at c3 ⊢; omega)
  obtain rfl := Option.some.inj H
  go_enter Try.func27, Try.ntmps27
  go_wp2
  repeat (go_quiet (fail); try go_wp2)
  go_ret
  exact ⟨by first | rfl | (simp; done) | (simp [*]; done), by repeat (first | exact Drawn0.refl _ | apply Drawn0.step)⟩

/-! ### gimbalref0_EqEntry: function 11 -/
def gimbalref0_EqEntry.f (k : Nat) (a0_0 : Int) (l0_1 : List Int) (a1_0 : Int) (l1_1 : List Int) : Option (Bool) := if a0_0 = a1_0 then ((gimbalref0_EqBytes.f k l0_1 l1_1).bind fun t122 => (some t122)) else (some false)
theorem gimbalref0_EqEntry.mono : ∀ a0 a1 a2 a3 k, LeO (gimbalref0_EqEntry.f k a0 a1 a2 a3) (gimbalref0_EqEntry.f (k + 1) a0 a1 a2 a3) := by
 intro a0 a1 a2 a3 k
 unfold gimbalref0_EqEntry.f
 repeat' first
   | (with_reducible exact gimbalref0_EqBytes.mono _ _ _)
   | (with_reducible exact LeO.refl _)
   | (with_reducible exact LeO.none _)
   | (with_reducible refine LeO.ite ?_ ?_)
   | (with_reducible refine LeO.bind ?_ (fun _ => ?_))
   | exact gimbalref0_EqBytes.mono _ _ _
   | exact LeO.none _
   | refine LeO.ite ?_ ?_
   | refine LeO.bind ?_ (fun _ => ?_)
set_option maxHeartbeats 8000000 in
set_option maxRecDepth 100000 in
theorem gimbalref0_EqEntry.calls (k : Nat) (a0_0 : Int) (A0_1 : Option Addr) (c0_1 : Nat) (l0_1 : List Int) (a1_0 : Int) (A1_1 : Option Addr) (c1_1 : Nat) (l1_1 : List Int) (r : Bool) (w : World) (hr0_1 : Kd.C (Kd.int .u8) w A0_1 l0_1.length l0_1) (hc0_1 : l0_1.length ≤ c0_1) (hr1_1 : Kd.C (Kd.int .u8) w A1_1 l1_1.length l1_1) (hc1_1 : l1_1.length ≤ c1_1) (h : gimbalref0_EqEntry.f k a0_0 l0_1 a1_0 l1_1 = some r) :
  Calls Try.prog 11 #[.agg #[.int .i64 a0_0, .slice A0_1 l0_1.length c0_1], .agg #[.int .i64 a1_0, .slice A1_1 l1_1.length c1_1]] w fun e w' => e = .returned (.bool r) ∧ Below w.heap.size w w' := by
 have hu25 := Try.underlying25
 have HR0_1 := Aside0.mk hr0_1
 have HC0_1 := Aside0.mk hc0_1
 clear hr0_1 hc0_1
 have HR1_1 := Aside0.mk hr1_1
 have HC1_1 := Aside0.mk hc1_1
 clear hr1_1 hc1_1
 have HB := Aside0.mk (Below.refl w.heap.size w)
 have H : (if a0_0 = a1_0 then ((gimbalref0_EqBytes.f k l0_1 l1_1).bind fun t122 => (some t122)) else (some false)) = some r := h
 clear h
 by_cases c3 : a0_0 = a1_0
 ·rw [if_pos c3] at H
  have c3b0 : (a0_0 == a1_0) = true := beq_iff_eq.mpr c3
  have c3b1 : (a0_0 != a1_0) = false := bne_eq_false_iff_eq.mpr c3
  clear c3
  replace H := Option.bind_eq_some_iff.mp H
  obtain ⟨t122, A40, H⟩ := H
  replace H : (some t122) = some r := H
  have A4 := Aside0.mk A40
  clear A40
  obtain rfl := Option.some.inj H
  go_enter Try.func11, Try.ntmps11
  go_wp2_with (first | ((with_reducible refine gate_dst (N := 2) rfl ?_); refine box_event ?hg (N := 2) ?hd (cs := #[.int .i64 a0_0, .slice A0_1 l0_1.length c0_1]) (t := 25) ?hr ?_; (case hd => rfl); (case hg => rfl); (case hr => first | (go_simp; done) | (go_simp; rfl)); intro gb120 hg w5 hbox hb; have BK120 := Aside0.mk hbox; have GW120 := Sq.ge hg HB; have GE120 := Sq.ge hg HB; replace HB := Sq.sw HB hb; clear hb hbox hg) | ((with_reducible refine gate_dst (N := 3) rfl ?_); refine box_event ?hg (N := 3) ?hd (cs := #[.int .i64 a1_0, .slice A1_1 l1_1.length c1_1]) (t := 25) ?hr ?_; (case hd => rfl); (case hg => rfl); (case hr => first | (go_simp; done) | (go_simp; rfl)); intro gb121 hg w6 hbox hb; have BK121 := Aside0.mk hbox; have GW121 := Sq.ge hg HB; have GE121 := Sq.ge hg HB; obtain ⟨NB120_121, NB121_120⟩ := Sq.np hg BK120; replace BK120 := Sq.sb BK120 hb; replace HB := Sq.sw HB hb; clear hb hbox hg; have b7 := NB120_121.out; have d7 := NB121_120.out; obtain ⟨z8_0, z8_1⟩ := Sq.c2 BK120.out; obtain ⟨y8_0, y8_1⟩ := Sq.f2 BK120.out; obtain ⟨z9_0, z9_1⟩ := Sq.c2 BK121.out; obtain ⟨y9_0, y9_1⟩ := Sq.f2 BK121.out) | (go_at_call 27; (with_reducible refine (gimbalref0_EqBytes.calls k _ _ l0_1 _ _ l1_1 t122 _ ?side1 ?side2 ?side3 ?side4 A4.out).mono ?_); (case side1 => repeat (first | exact (Kd.C_below HR0_1.out HB.out) | (with_reducible refine Kd.C_alloc ?_ _) | (with_reducible refine Kd.C_drewN ?_ _) | (with_reducible refine Kd.C_drew ?_))); (case side2 => exact HC0_1.out); (case side3 => repeat (first | exact (Kd.C_below HR1_1.out HB.out) | (with_reducible refine Kd.C_alloc ?_ _) | (with_reducible refine Kd.C_drewN ?_ _) | (with_reducible refine Kd.C_drew ?_))); (case side4 => exact HC1_1.out); rintro e w' ⟨rfl, ⟨nd, rfl⟩⟩))
  go_ret
  exact ⟨by first | rfl | (simp [errW_none, errW_some] <;> rfl) | (simp [*, errW_none, errW_some] <;> rfl), Sq.w HB.out⟩
 ·rw [if_neg c3] at H
  have c3b0 : (a0_0 == a1_0) = false := beq_eq_false_iff_ne.mpr c3
  have c3b1 : (a0_0 != a1_0) = true := bne_iff_ne.mpr c3
  obtain rfl := Option.some.inj H
  go_enter Try.func11, Try.ntmps11
  go_wp2_with (first | ((with_reducible refine gate_dst (N := 2) rfl ?_); refine box_event ?hg (N := 2) ?hd (cs := #[.int .i64 a0_0, .slice A0_1 l0_1.length c0_1]) (t := 25) ?hr ?_; (case hd => rfl); (case hg => rfl); (case hr => first | (go_simp; done) | (go_simp; rfl)); intro gb120 hg w10 hbox hb; have BK120 := Aside0.mk hbox; have GW120 := Sq.ge hg HB; have GE120 := Sq.ge hg HB; replace HB := Sq.sw HB hb; clear hb hbox hg) | ((with_reducible refine gate_dst (N := 3) rfl ?_); refine box_event ?hg (N := 3) ?hd (cs := #[.int .i64 a1_0, .slice A1_1 l1_1.length c1_1]) (t := 25) ?hr ?_; (case hd => rfl); (case hg => rfl); (case hr => first | (go_simp; done) | (go_simp; rfl)); intro gb121 hg w11 hbox hb; have BK121 := Aside0.mk hbox; have GW121 := Sq.ge hg HB; have GE121 := Sq.ge hg HB; obtain ⟨NB120_121, NB121_120⟩ := Sq.np hg BK120; replace BK120 := Sq.sb BK120 hb; replace HB := Sq.sw HB hb; clear hb hbox hg; have b12 := NB120_121.out; have d12 := NB121_120.out; obtain ⟨z13_0, z13_1⟩ := Sq.c2 BK120.out; obtain ⟨y13_0, y13_1⟩ := Sq.f2 BK120.out; obtain ⟨z14_0, z14_1⟩ := Sq.c2 BK121.out; obtain ⟨y14_0, y14_1⟩ := Sq.f2 BK121.out))
  go_ret
  exact ⟨by first | rfl | (simp [errW_none, errW_some] <;> rfl) | (simp [*, errW_none, errW_some] <;> rfl), Sq.w HB.out⟩

/-! ### log_Head: function 13 -/
def log_Head.f (a0 : Int) : Option (Int × Int) := if a0 < 0 then (some (0, 1)) else (if a0 ≥ 16777216 then (some (0, 1)) else (some ((1191182336 + ((a0) % 4294967296)) % 4294967296, 0)))
set_option maxHeartbeats 8000000 in
set_option maxRecDepth 100000 in
theorem log_Head.calls (a0 : Int) (r1 : Int) (r2 : Int) (w : World) (h : log_Head.f a0 = some (r1, r2)) :
  Calls Try.prog 13 #[.int .i64 a0] w fun e w' => e = .returned (.tuple #[.int .u32 r1, .int .i64 r2]) ∧ Drawn0 w w' := by
 have H : (if a0 < 0 then (some (0, 1)) else (if a0 ≥ 16777216 then (some (0, 1)) else (some ((1191182336 + ((a0) % 4294967296)) % 4294967296, 0)))) = some (r1, r2) := h
 clear h
 by_cases c2 : a0 < 0
 ·rw [if_pos c2] at H
  have c2b0 : decide (a0 < 0) = true := decide_eq_true c2
  clear c2
  simp only [Option.some.injEq, Prod.mk.injEq] at H
  obtain ⟨rfl, rfl⟩ := H
  go_enter Try.func13, Try.ntmps13
  go_wp2
  go_ret2
  exact ⟨by first | rfl | (simp; done) | (simp [*]; done), by repeat (first | exact Drawn0.refl _ | apply Drawn0.step)⟩
 ·rw [if_neg c2] at H
  have c2b0 : decide (a0 < 0) = false := decide_eq_false c2
  clear c2
  by_cases c3 : a0 ≥ 16777216
  ·rw [if_pos c3] at H
   have c3b0 : decide (16777216 ≤ a0) = true := decide_eq_true c3
   clear c3
   simp only [Option.some.injEq, Prod.mk.injEq] at H
   obtain ⟨rfl, rfl⟩ := H
   go_enter Try.func13, Try.ntmps13
   go_wp2
   go_ret2
   exact ⟨by first | rfl | (simp; done) | (simp [*]; done), by repeat (first | exact Drawn0.refl _ | apply Drawn0.step)⟩
  ·rw [if_neg c3] at H
   have c3b0 : decide (16777216 ≤ a0) = false := decide_eq_false c3
   clear c3
   simp only [Option.some.injEq, Prod.mk.injEq] at H
   obtain ⟨rfl, rfl⟩ := H
   go_enter Try.func13, Try.ntmps13
   go_wp2
   go_ret2
   exact ⟨by first | rfl | (simp; done) | (simp [*]; done), by repeat (first | exact Drawn0.refl _ | apply Drawn0.step)⟩

/-! ### log_Gen: function 14 -/
def log_Gen.f (a0 : Int) : Option (Int × Bool) := if (Go.bits .and .u32 a0 4278190080) = 1191182336 then (some (wrap64 (Go.bits .andNot .u32 a0 4278190080), true)) else (some (0, false))
set_option maxHeartbeats 8000000 in
set_option maxRecDepth 100000 in
theorem log_Gen.calls (a0 : Int) (r1 : Int) (r2 : Bool) (w : World) (h : log_Gen.f a0 = some (r1, r2)) :
  Calls Try.prog 14 #[.int .u32 a0] w fun e w' => e = .returned (.tuple #[.int .i64 r1, .bool r2]) ∧ Drawn0 w w' := by
 have H : (if (Go.bits .and .u32 a0 4278190080) = 1191182336 then (some (wrap64 (Go.bits .andNot .u32 a0 4278190080), true)) else (some (0, false))) = some (r1, r2) := h
 clear h
 by_cases c2 : (Go.bits .and .u32 a0 4278190080) = 1191182336
 ·rw [if_pos c2] at H
  have c2b0 : ((Go.bits .and .u32 a0 4278190080) == 1191182336) = true := beq_iff_eq.mpr c2
  have c2b1 : ((Go.bits .and .u32 a0 4278190080) != 1191182336) = false := bne_eq_false_iff_eq.mpr c2
  clear c2
  simp only [Option.some.injEq, Prod.mk.injEq] at H
  obtain ⟨rfl, rfl⟩ := H
  go_enter Try.func14, Try.ntmps14
  go_wp2
  go_ret2
  exact ⟨by first | rfl | (simp; done) | (simp [*]; done), by repeat (first | exact Drawn0.refl _ | apply Drawn0.step)⟩
 ·rw [if_neg c2] at H
  have c2b0 : ((Go.bits .and .u32 a0 4278190080) == 1191182336) = false := beq_eq_false_iff_ne.mpr c2
  have c2b1 : ((Go.bits .and .u32 a0 4278190080) != 1191182336) = true := bne_iff_ne.mpr c2
  simp only [Option.some.injEq, Prod.mk.injEq] at H
  obtain ⟨rfl, rfl⟩ := H
  go_enter Try.func14, Try.ntmps14
  go_wp2
  go_ret2
  exact ⟨by first | rfl | (simp; done) | (simp [*]; done), by repeat (first | exact Drawn0.refl _ | apply Drawn0.step)⟩

end Go.Proofs.Ytbleapgklbohcaa.PLogExact
