/-
  Walks of package cmd: what may be subscribed.
  No conditions.
-/
import Derived.Test.YtfdfnmlbmijdjaaRateA
import Derived.Lib.Hide
namespace Go.Proofs.Ytfdfnmlbmijdjaa.Rt
open Go.RowKit Go.Lib Go.Proofs.YtfdfnmlbmijdjaaW.PrintWords Go.Proofs.YtfdfnmlbmijdjaaW.PrintLast Go.Proofs.YtfdfnmlbmijdjaaW.PrintMore
set_option linter.unusedVariables false
set_option linter.unusedSimpArgs false
def senOk (s : Int) : Bool := decide (1 ≤ s) && decide (s ≤ 15)
set_option maxHeartbeats 4000000 in
theorem sensor_ (s : Int) (W : World) : Calls Try.prog 32 #[.int .i64 s] W fun e w' => e = .returned (.bool (senOk s)) ∧ w' = W := by
  obtain ⟨r, hr⟩ : ∃ r, r = senOk s := ⟨_, rfl⟩
  rw [← hr]
  unfold senOk at hr
  have HR := Lib.hid hr
  clear hr
  go_enter Try.func32, Try.ntmps32
  go_wp2
  all_goals (go_ret; refine ⟨?_, rfl⟩; rw [HR.out]; first | rfl | (congr 1; simp; omega) | (simp; omega))
end Go.Proofs.Ytfdfnmlbmijdjaa.Rt
