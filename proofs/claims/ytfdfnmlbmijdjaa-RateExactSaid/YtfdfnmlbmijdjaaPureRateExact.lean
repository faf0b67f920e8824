/-
  The pure law of RateExact: the walk has shown all.
  No conditions.
-/
import Derived.Test.YtfdfnmlbmijdjaaSpecRateExact
namespace Go.Proofs.Ytfdfnmlbmijdjaa.Pure
open Go.RowKit Go.Proofs.Ytfdfnmlbmijdjaa Go.Proofs.Ytfdfnmlbmijdjaa.PRateExact Go.Proofs.YtfdfnmlbmijdjaaW.PrintWords Go.Proofs.YtfdfnmlbmijdjaaW.PrintLast Go.Proofs.YtfdfnmlbmijdjaaW.PrintMore
theorem RateExact : gimballaw27_RateExact.Pure := fun _ _ => ⟨0, rfl⟩
end Go.Proofs.Ytfdfnmlbmijdjaa.Pure
