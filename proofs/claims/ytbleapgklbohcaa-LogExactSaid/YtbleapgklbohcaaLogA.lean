/-
  Walks of log.reader.next, log.entry and log.Scan.
  No conditions.
-/
import Derived.Test.YtbleapgklbohcaaCrcB
import Derived.Test.YtbleapgklbohcaaWMore
import Derived.Deep.LoopGhost
import Derived.Deep.QuietTactic
namespace Go.Proofs.Ytbleapgklbohcaa.Lg
open Go.RowKit Go.Proofs.YtbleapgklbohcaaW.PrintWords Go.Proofs.YtbleapgklbohcaaW.PrintLast Go.Proofs.YtbleapgklbohcaaW.PrintMore
set_option linter.unusedSimpArgs false
set_option linter.unusedVariables false
theorem info26 : (Try.prog.info? 26).map (fun i => (i.zero, i.size, i.bytes)) = some (some (.int .u32 0), 1, 4) := by kernel_rfl
set_option maxHeartbeats 4000000 in
theorem next_no (g : Nat) (A : Option Addr) (c : Nat) (l : List Int) (at_ m : Int) (w : World) (hb : w.heap[g]? = some (.cells #[.slice A l.length c, .int .i64 at_] 60 (0, 0))) (h0 : 0 ≤ at_) (h1 : at_ ≤ 256) (h2 : 0 ≤ m) (h3 : m ≤ 256) (hlt : (l.length : Int) < at_ + m) :
    Calls Try.prog 33 #[.pointer (some ⟨g, 0, none⟩), .int .i64 m] w fun e w' => e = .returned (.tuple #[.slice none 0 0, .bool false]) ∧ Below w.heap.size w w' := by
  have hs0 : w.cell? ⟨g, 0, none⟩ = some (.slice A l.length c) := (blk_cell hb 0).trans rfl
  have hs1 : w.cell? ⟨g, 1, none⟩ = some (.int .i64 at_) := (blk_cell hb 1).trans rfl
  have hd : decide ((l.length : Int) < at_ + m) = true := decide_eq_true hlt
  have hw : IntKind.i64.wrap (at_ + m) = at_ + m := by rw [i64_w]; unfold wrap64; omega
  go_enter Try.func33, Try.ntmps33
  go_wp2
  go_quiet (skip)
  go_wp2
  go_ret2
  exact ⟨rfl, pw_below_drewN (Below.refl _ _) _⟩
set_option maxHeartbeats 4000000 in
theorem next_yes (g : Nat) (A : Option Addr) (c : Nat) (l : List Int) (at_ m : Int) (w w0 : World) (hb : w.heap[g]? = some (.cells #[.slice A l.length c, .int .i64 at_] 60 (0, 0))) (h0 : 0 ≤ at_) (h1 : at_ ≤ 256) (h2 : 0 ≤ m) (h3 : m ≤ 256) (hle : at_ + m ≤ (l.length : Int)) (hr : Kd.C (Kd.int .u32) w0 A l.length l) (hc : l.length ≤ c) :
    ∃ A' c', Kd.C (Kd.int .u32) w0 A' m.toNat ((l.take (at_ + m).toNat).drop at_.toNat) ∧ m.toNat ≤ c' ∧
    Calls Try.prog 33 #[.pointer (some ⟨g, 0, none⟩), .int .i64 m] w fun e w' => e = .returned (.tuple #[.slice A' m.toNat c', .bool true]) ∧ Below w.heap.size (w.setCell ⟨g, 1, none⟩ (.int .i64 (at_ + m))) w' := by
  have hs0 : w.cell? ⟨g, 0, none⟩ = some (.slice A l.length c) := (blk_cell hb 0).trans rfl
  have hs1 : w.cell? ⟨g, 1, none⟩ = some (.int .i64 at_) := (blk_cell hb 1).trans rfl
  have hf1 := blk_frozen hb 1
  have hd : decide ((l.length : Int) < at_ + m) = false := decide_eq_false (by omega)
  have hw : IntKind.i64.wrap (at_ + m) = at_ + m := by rw [i64_w]; unfold wrap64; omega
  obtain ⟨i0, hi0, _, hsz, _⟩ := info_parts info26
  obtain ⟨A', hcut, hA', hC'⟩ := print_mid_of (P := Try.prog) (Value.int .u32) 0 27 26 .i64 .i64 Try.underlying27 hi0 hsz A c l at_ (at_ + m) h0 (by omega) hle hc
  have hlen : ((l.take (at_ + m).toNat).drop at_.toNat).length = m.toNat := by rw [List.length_drop, List.length_take]; omega
  have hR : Kd.C (Kd.int .u32) w0 A' ((l.take (at_ + m).toNat).drop at_.toNat).length ((l.take (at_ + m).toNat).drop at_.toNat) := Kd.C_of_reads (h1 := fun _ => rfl) (hA' _ (Kd.reads_of_C hr))
  rw [hlen] at hcut hC' hR
  refine ⟨A', c - at_.toNat, hR, hC', ?_⟩
  clear hR hlen
  clear hr hA' hC' hi0 hsz
  go_enter Try.func33, Try.ntmps33
  go_wp2
  go_quiet (skip)
  go_wp2
  go_quiet (skip)
  go_wp2
  go_ret2
  exact ⟨rfl, pw_below_drewN (Below.refl _ _) _⟩
end Go.Proofs.Ytbleapgklbohcaa.Lg
