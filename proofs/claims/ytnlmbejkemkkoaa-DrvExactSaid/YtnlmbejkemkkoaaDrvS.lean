/-
  Walk of gimbalref9.Set.
  No conditions.
-/
import Derived.Test.YtnlmbejkemkkoaaDrvE
namespace Go.Proofs.Ytnlmbejkemkkoaa.Dr
open Go.RowKit
set_option linter.unusedSimpArgs false
set_option linter.unusedVariables false
/-- The state behind a wish. -/
def setS (s : Int) (want other : Bool) : Int :=
  if want = true then (if s = 0 ∨ s = 6 then 1 else if other = true ∧ (s = 3 ∨ s = 4 ∨ s = 5) then 2 else s)
  else (if s ≠ 0 ∧ s ≠ 7 ∧ s ≠ 8 then 6 else s)
theorem blk_new2 (w : World) (o o' : Obj) : ((w.alloc o).alloc o').heap[w.heap.size + 1]? = some o' := by
  have h := heap_alloc_new (w.alloc o) o'
  rwa [World.size_alloc] at h
set_option maxHeartbeats 8000000 in
theorem refSet0 (a i : Int) (p : Bool) (b c e : Int) (t : Bool) (l q : Int) (want : Bool) (n : Int) (w : World) (s' e' l' : Int) (hs : RowKit.Hid (s' = setS c want (b != n))) (he : RowKit.Hid (e' = if s' = c then e else 0)) (hl : RowKit.Hid (l' = if s' = c then l else 0)) :
    Calls Try.prog 15 #[.agg #[.int .i64 a, .int .i64 i, .bool p, .int .i64 b, .int .i64 c, .int .i64 e, .bool t, .int .i64 l, .int .i64 q], .bool want, .int .i64 n] w fun z w' =>
      z = .returned (.agg #[.int .i64 a, .int .i64 i, .bool want, .int .i64 n, .int .i64 s', .int .i64 e', .bool t, .int .i64 l', .int .i64 q]) ∧ Below w.heap.size w w' := by
  go_enter Try.func15, Try.ntmps15
  go_wp2
  all_goals (
    have hs1 := hs.out
    have he1 := he.out
    have hl1 := hl.out
    clear hs he hl
    refine bodyPost_ret (results_cell_row (fn := Try.f15) (p := 6) (ty := 24) rfl _ _ (w.heap.size + 1) 24 _ (0, 0) _ rfl (blk_new2 _ _ _) Try.underlying24 rfl (by kernel_rfl)) rfl ⟨?_, ((Below.refl _ _).alloc (Nat.le_refl _) _).alloc (by rw [World.size_alloc]; omega) _⟩
    (try simp only [beq_iff_eq, bne_iff_ne, ne_eq, beq_eq_false_iff_ne, bne_eq_false_iff_eq, Bool.not_eq_true] at *)
    subst hs1
    subst he1
    subst hl1
    simp only [Ending.returned.injEq, Value.agg.injEq, Array.mk.injEq, List.cons.injEq, Value.int.injEq, Value.bool.injEq, true_and, and_true]
    simp only [setS, bne_iff_ne, ne_eq]
    cases want <;> (try contradiction) <;> (try simp only [true_and, if_true, if_false, Bool.false_eq_true]) <;> refine ⟨?_, ?_, ?_⟩ <;> (repeat' split) <;> omega)
end Go.Proofs.Ytnlmbejkemkkoaa.Dr
