/-
  Walk of log.entry.
  No conditions.
-/
import Derived.Test.YtbleapgklbohcaaLogA
import Derived.Deep.RegionHeld3
import Derived.Lib.Hide
namespace Go.Proofs.Ytbleapgklbohcaa.Lg
open Go.RowKit Go.Proofs.YtbleapgklbohcaaW.PrintWords Go.Proofs.YtbleapgklbohcaaW.PrintLast Go.Proofs.YtbleapgklbohcaaW.PrintMore
set_option linter.unusedSimpArgs false
set_option linter.unusedVariables false
theorem info5 : (Try.prog.info? 5).map (fun i => (i.zero, i.size, i.bytes)) = some (some (.int .u8 0), 1, 1) := by kernel_rfl
theorem zeroE (w : World) : (zeroValue 25).run Try.prog w = .ok (.agg #[.int .i64 0, .slice none 0 0]) w := by kernel_rfl
theorem results_cell_two {P : Program} {fn : Func} {p q r : Tmp} {ty : TypeId} (h : fn.results = #[.cell p ty, .tmp q, .tmp r]) (tmps : Array Value) (w : World) (g : Nat) (t : TypeId) (cs : Array Value) (fr : Nat × Nat) (d : TypeDesc) (hp : tmps.getD p undef = .pointer (some ⟨g, 0, none⟩)) (hg : w.heap[g]? = some (.cells cs t fr)) (hu : P.underlying ty = some d) (hd : (match d with | .struct _ | .array _ _ => true | _ => false) = true) (hi : (P.info? ty).map (·.size) = some cs.size) :
    (results fn tmps).run P w = .ok (.tuple #[.agg cs, tmps.getD q undef, tmps.getD r undef]) w := by
  have hp' : tmps[p]?.getD undef = .pointer (some ⟨g, 0, none⟩) := by simpa using hp
  simp [results, h, hp', asAddr, run_loadVar_row w g t ty cs fr d hg hu hd hi]
set_option maxHeartbeats 4000000 in
theorem entry_no (g : Nat) (f key n : Int) (w : World) (hk : IntKind.i64.wrap (Go.bits .and .u32 (f / 256) 65535) = key) (hn : IntKind.i64.wrap (Go.bits .and .u32 f 255) = n) (h : ¬ (Go.bits .and .u32 f 4278190080 = 1375731712 ∧ key < 16 ∧ n ≤ 24)) :
    Calls Try.prog 26 #[.pointer (some ⟨g, 0, none⟩), .int .u32 f] w fun e w' => e = .returned (.tuple #[.agg #[.int .i64 0, .slice none 0 0], .bool false, .bool false]) ∧ Below w.heap.size w w' := by
  by_cases h1 : Go.bits .and .u32 f 4278190080 = 1375731712
  · have h1b : (Go.bits .and .u32 f 4278190080 != 1375731712) = false := bne_eq_false_iff_eq.mpr h1
    by_cases h2 : key < 16
    · have h2b : decide (key ≥ 16) = false := decide_eq_false (by omega)
      have h2c : decide (16 ≤ key) = false := decide_eq_false (by omega)
      have h3b : decide (24 < n) = true := decide_eq_true (Int.not_le.1 fun h3 => h ⟨h1, h2, h3⟩)
      clear h h1 h2
      go_enter Try.func26, Try.ntmps26
      go_wp2
      refine bodyPost_ret (v := .tuple #[.agg #[.int .i64 0, .slice none 0 0], .bool false, .bool false]) ?_ rfl ⟨rfl, ?_⟩
      · exact results_cell_two (fn := Try.f26) (p := 4) (q := 5) (r := 6) (ty := 25) rfl _ _ w.heap.size 25 #[.int .i64 0, .slice none 0 0] (0, 0) _ rfl (blk_new _ _) Try.underlying25 rfl (by kernel_rfl)
      · exact (Below.refl _ _).alloc (Nat.le_refl _) _
    · have h2b : decide (key ≥ 16) = true := decide_eq_true (by omega)
      have h2c : decide (16 ≤ key) = true := decide_eq_true (by omega)
      clear h h1 h2
      go_enter Try.func26, Try.ntmps26
      go_wp2
      refine bodyPost_ret (v := .tuple #[.agg #[.int .i64 0, .slice none 0 0], .bool false, .bool false]) ?_ rfl ⟨rfl, ?_⟩
      · exact results_cell_two (fn := Try.f26) (p := 4) (q := 5) (r := 6) (ty := 25) rfl _ _ w.heap.size 25 #[.int .i64 0, .slice none 0 0] (0, 0) _ rfl (blk_new _ _) Try.underlying25 rfl (by kernel_rfl)
      · exact (Below.refl _ _).alloc (Nat.le_refl _) _
  · have h1b : (Go.bits .and .u32 f 4278190080 != 1375731712) = true := bne_iff_ne.mpr h1
    clear h h1
    go_enter Try.func26, Try.ntmps26
    go_wp2
    refine bodyPost_ret (v := .tuple #[.agg #[.int .i64 0, .slice none 0 0], .bool false, .bool false]) ?_ rfl ⟨rfl, ?_⟩
    · exact results_cell_two (fn := Try.f26) (p := 4) (q := 5) (r := 6) (ty := 25) rfl _ _ w.heap.size 25 #[.int .i64 0, .slice none 0 0] (0, 0) _ rfl (blk_new _ _) Try.underlying25 rfl (by kernel_rfl)
    · exact (Below.refl _ _).alloc (Nat.le_refl _) _
set_option maxHeartbeats 4000000 in
theorem entry_short (g : Nat) (A : Option Addr) (c : Nat) (l : List Int) (at_ f key n : Int) (w : World) (hb : w.heap[g]? = some (.cells #[.slice A l.length c, .int .i64 at_] 60 (0, 0))) (h0 : 0 ≤ at_) (h1 : at_ ≤ 256)
    (hk : IntKind.i64.wrap (Go.bits .and .u32 (f / 256) 65535) = key) (hn : IntKind.i64.wrap (Go.bits .and .u32 f 255) = n) (h : Go.bits .and .u32 f 4278190080 = 1375731712 ∧ key < 16 ∧ n ≤ 24) (hn0 : 0 ≤ n) (hlt : (l.length : Int) < at_ + ((n + 3) / 4 + 2)) :
    Calls Try.prog 26 #[.pointer (some ⟨g, 0, none⟩), .int .u32 f] w fun e w' => e = .returned (.tuple #[.agg #[.int .i64 0, .slice none 0 0], .bool false, .bool false]) ∧ Below w.heap.size w w' := by
  obtain ⟨h1', h2, h3⟩ := h
  have h1b : (Go.bits .and .u32 f 4278190080 != 1375731712) = false := bne_eq_false_iff_eq.mpr h1'
  have h2c : decide (16 ≤ key) = false := decide_eq_false (by omega)
  have h3b : decide (24 < n) = false := decide_eq_false (by omega)
  have hw1 : IntKind.i64.wrap (n + 3) = n + 3 := by rw [i64_w]; unfold wrap64; omega
  have hw2 : IntKind.i64.wrap ((n + 3).tdiv 4) = (n + 3) / 4 := by rw [i64_w, Int.tdiv_eq_ediv_of_nonneg (by omega)]; unfold wrap64; omega
  have hw3 : IntKind.i64.wrap ((n + 3) / 4 + 2) = (n + 3) / 4 + 2 := by rw [i64_w]; unfold wrap64; omega
  have HB := Lib.hid hb
  have hlt' := Lib.hid hlt
  have hn0' := Lib.hid hn0
  have h3' := Lib.hid h3
  clear h1' h2 hlt hb hn0 h3
  go_enter Try.func26, Try.ntmps26
  go_wp2_with (go_at_call 33; refine (next_no g A c l at_ ((n + 3) / 4 + 2) _ (blk_below HB.out ((Below.refl _ _).alloc (Nat.le_refl _) _)) h0 h1 (by have := hn0'.out; omega) (by have := h3'.out; omega) hlt'.out).mono ?_; rintro e w' ⟨rfl, hb1⟩; have hr1 := Lib.hid (blk_below (blk_new w (.cells #[.int .i64 0, .slice none 0 0] 25)) hb1); have hb2 := Lib.hid hb1; clear hb1; have hc0 : w'.cell? ⟨w.heap.size, 0, none⟩ = some (.int .i64 0) := (blk_cell hr1.out 0).trans rfl; have hc1 : w'.cell? ⟨w.heap.size, 1, none⟩ = some (.slice none 0 0) := (blk_cell hr1.out 1).trans rfl; have hf0 := blk_frozen hr1.out 0; have hf1 := blk_frozen hr1.out 1)
  refine bodyPost_ret (v := .tuple #[.agg #[.int .i64 0, .slice none 0 0], .bool false, .bool false]) ?_ rfl ⟨rfl, ?_⟩
  · exact results_cell_two (fn := Try.f26) (p := 4) (q := 5) (r := 6) (ty := 25) rfl _ _ w.heap.size 25 #[.int .i64 0, .slice none 0 0] (0, 0) _ rfl (blk_set (blk_set hr1.out 0 _) 1 _) Try.underlying25 rfl (by kernel_rfl)
  · exact below_set (below_set (((Below.refl _ w).alloc (Nat.le_refl _) _).trans (hb2.out.mono (by rw [World.size_alloc]; omega))) (Nat.le_refl _)) (Nat.le_refl _)
end Go.Proofs.Ytbleapgklbohcaa.Lg
