/-
  Walks of drv.Good and drv.Next.
  No conditions.
-/
import Derived.Test.YtnlmbejkemkkoaaDrvB
import Derived.Laws.EntriesVeiled
import Derived.Deep.DeepCutAuto
import Derived.Deep.CutBlock
namespace Go.Proofs.Ytnlmbejkemkkoaa.Dr
open Go.RowKit
set_option linter.unusedSimpArgs false
set_option linter.unusedVariables false
theorem retb {x y : Bool} (h : x = y) : Ending.returned (.bool x) = .returned (.bool y) := by rw [h]
/-- Is this a driver? -/
def goodD (a i b c e l q : Int) : Bool := decide (0 ≤ a ∧ a ≤ 127 ∧ 0 ≤ i ∧ i ≤ 255 ∧ 1 ≤ b ∧ b ≤ 250 ∧ 0 ≤ c ∧ c ≤ 8 ∧ 0 ≤ e ∧ e < 3 ∧ 0 ≤ q ∧ q ≤ 1099511627776 ∧ (c = 5 → 1 ≤ l ∧ l ≤ 16) ∧ (c ≠ 5 → l = 0))
theorem goodD_iff {a i b c e l q : Int} (h : goodD a i b c e l q = true) : 0 ≤ a ∧ a ≤ 127 ∧ 0 ≤ i ∧ i ≤ 255 ∧ 1 ≤ b ∧ b ≤ 250 ∧ 0 ≤ c ∧ c ≤ 8 ∧ 0 ≤ e ∧ e < 3 ∧ 0 ≤ q ∧ q ≤ 1099511627776 ∧ (c = 5 → 1 ≤ l ∧ l ≤ 16) ∧ (c ≠ 5 → l = 0) := of_decide_eq_true h
set_option maxHeartbeats 4000000 in
theorem Good_any (a i : Int) (p : Bool) (b c e : Int) (t : Bool) (l q : Int) (w : World) : Calls Try.prog 32 #[.agg #[.int .i64 a, .int .i64 i, .bool p, .int .i64 b, .int .i64 c, .int .i64 e, .bool t, .int .i64 l, .int .i64 q]] w fun e' w' => e' = .returned (.bool (goodD a i b c e l q)) ∧ w' = w.alloc (.cells #[.int .i64 a, .int .i64 i, .bool p, .int .i64 b, .int .i64 c, .int .i64 e, .bool t, .int .i64 l, .int .i64 q] 24) := by
  have hc : (c == 5) = decide (c = 5) := by
    by_cases h : c = 5 <;> simp [h]
  go_enter Try.func32, Try.ntmps32
  go_wp2
  all_goals (go_ret; refine ⟨retb ?_, ?_⟩)
  all_goals first
    | (symm; unfold goodD; rw [decide_eq_false_iff_not]; omega)
    | (unfold goodD; rw [decide_eq_decide]; omega)
    | (unfold goodD; rw [Bool.eq_iff_iff, beq_iff_eq, decide_eq_true_iff]; omega)
    | rfl
    | (have h5 : c = 5 := by assumption
       rw [h5])
end Go.Proofs.Ytnlmbejkemkkoaa.Dr
