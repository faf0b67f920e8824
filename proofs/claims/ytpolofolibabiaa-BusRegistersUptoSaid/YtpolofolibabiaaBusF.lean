/-
  Package ring at api.Raw: New.
  No conditions.
-/
import Derived.Test.YtpolofolibabiaaBusE
import Derived.Conc.SmallLaws
import Derived.Laws.MakeOwn
namespace Go.Proofs.Ytpolofolibabiaa.Bs
open Go Go.RowKit Go.Lib Go.Proofs.YtpolofolibabiaaW.PrintWords Go.Proofs.YtpolofolibabiaaW.PrintLast Go.Proofs.YtpolofolibabiaaW.PrintMore
set_option linter.unusedVariables false
set_option linter.unusedSimpArgs false
def zs16 : List Rw := List.replicate 16 Rw.no
theorem infoR : (Try.prog.info? 60).map (fun i => (i.zero, i.size, i.bytes)) = some (some (.agg #[.int .i64 0, .int .i64 0, .int .i64 0, .int .i64 0]), 4, 32) := by kernel_rfl
theorem infoU : (Try.prog.info? 110).map (fun i => (i.zero, i.size, i.bytes)) = some (some (.agg #[]), 0, 0) := by kernel_rfl
theorem zs_flat : madeCells (Value.agg #[Value.int IntKind.i64 0, Value.int IntKind.i64 0, Value.int IntKind.i64 0, Value.int IntKind.i64 0]).cells (Int.toNat 16 * 4) = (flat zs16).toArray := by kernel_rfl
theorem make16 (w : World) : (Instr.makeSlice 33 (.int .i64 16) (.int .i64 16)).run Try.prog w = .ok (.slice (some ⟨w.heap.size, 0, none⟩) 16 16) (w.alloc (.cells (flat zs16).toArray 60)) := by
  obtain ⟨i, hi, hzz⟩ := Option.map_eq_some_iff.1 infoR
  simp only [Prod.mk.injEq] at hzz
  obtain ⟨hz, hs, hb⟩ := hzz
  have h := run_make (P := Try.prog) w 33 60 i _ Try.underlying33 hi hz .i64 .i64 16 16 (by omega) (Int.le_refl _) (by rw [hb]; decide) (by omega)
  refine h.trans ?_
  rw [hs]
  rw [zs_flat]
  rfl
theorem chan16 (w : World) : (Instr.makeChan 101 (.int .i64 16)).run Try.prog w = .ok (.chan (some w.heap.size)) (w.alloc (.chan 16 #[] false 0 0 false)) := by
  obtain ⟨i, hi, hzz⟩ := Option.map_eq_some_iff.1 infoU
  simp only [Prod.mk.injEq] at hzz
  obtain ⟨hz, hs, hb⟩ := hzz
  exact Go.Conc.run_makeChan (P := Try.prog) (w := w) (dir := .both) (show Try.prog.underlying 101 = some (.chan .both 110) by kernel_rfl) hi .i64 16 (by omega) (by rw [hb]; omega)
theorem three (w : World) (x y z : Obj) : ((((w.alloc x).alloc y).alloc z).drew).heap[w.heap.size]? = some x ∧ ((((w.alloc x).alloc y).alloc z).drew).heap[w.heap.size + 1]? = some y ∧ ((((w.alloc x).alloc y).alloc z).drew).heap[w.heap.size + 1 + 1]? = some z := by
  show (((w.heap.push x).push y).push z)[_]? = _ ∧ (((w.heap.push x).push y).push z)[_]? = _ ∧ (((w.heap.push x).push y).push z)[_]? = _
  refine ⟨?_, ?_, ?_⟩
  · rw [Array.getElem?_push, if_neg (by simp; omega), Array.getElem?_push, if_neg (by simp), Array.getElem?_push, if_pos rfl]
  · rw [Array.getElem?_push, if_neg (by simp), Array.getElem?_push, if_pos (by simp)]
  · rw [Array.getElem?_push, if_pos (by simp)]
set_option maxHeartbeats 4000000 in
set_option maxRecDepth 100000 in
theorem newQ (w : World) : Calls Try.prog 32 #[.int .i64 16] w fun e w' => ∃ g b c, e = .returned (.tuple #[.pointer (some ⟨g, 0, none⟩), .int .i64 0]) ∧ RingQ w' g b c [] ∧ Below w.heap.size w w' ∧ w.heap.size ≤ g ∧ w.heap.size ≤ b ∧ w.heap.size ≤ c := by
  go_enter Try.func32, Try.ntmps32
  go_upto_region 3 with fail
  have hmk := make16
  have hmc := chan16
  go_region
  · clear hmk hmc
    go_wp2
    go_ret2
    have h3 : ∀ (W : World) (o : Obj), Below W.heap.size W (W.alloc o) := fun W o => below_alloc (Below.refl _ _) _
    have hb : Below w.heap.size w (((w.alloc (.cells (flat zs16).toArray 60)).alloc (.chan 16 #[] false 0 0 false)).alloc (.cells #[.slice (some ⟨w.heap.size, 0, none⟩) 16 16, .int .i64 0, .chan (some (w.heap.size + 1))] 103)) := below_alloc (below_alloc (below_alloc (Below.refl _ _) _) _) _
    refine ⟨_, w.heap.size, w.heap.size + 1, rfl, ?_, ⟨hb.os, hb.tape, hb.output, hb.size, hb.block⟩, by omega, Nat.le_refl _, by omega⟩
    refine ⟨zs16, 0, ⟨?_, ?_, ⟨#[], 0, 0, ?_, rfl⟩, rfl, by omega, by simp⟩, fun i hi => by simp at hi⟩
    · exact (three w _ _ _).2.2
    · exact (three w _ _ _).1
    · exact (three w _ _ _).2.1
  · clear hmk hmc
    go_wp2
    go_ret2
    have hb : Below w.heap.size w (((w.alloc (.chan 16 #[] false 0 0 false)).alloc (.cells (flat zs16).toArray 60)).alloc (.cells #[.slice (some ⟨w.heap.size + 1, 0, none⟩) 16 16, .int .i64 0, .chan (some w.heap.size)] 103)) := below_alloc (below_alloc (below_alloc (Below.refl _ _) _) _) _
    refine ⟨_, w.heap.size + 1, w.heap.size, rfl, ?_, ⟨hb.os, hb.tape, hb.output, hb.size, hb.block⟩, by omega, by omega, Nat.le_refl _⟩
    refine ⟨zs16, 0, ⟨?_, ?_, ⟨#[], 0, 0, ?_, rfl⟩, rfl, by omega, by simp⟩, fun i hi => by simp at hi⟩
    · exact (three w _ _ _).2.2
    · exact (three w _ _ _).2.1
    · exact (three w _ _ _).1
end Go.Proofs.Ytpolofolibabiaa.Bs
