/-
  The pure law of RateApart: the walk has shown all.
  No conditions.
-/
import Derived.Test.YtfdfnmlbmijdjaaSpecRateApart
namespace Go.Proofs.Ytfdfnmlbmijdjaa.Pure
open Go.RowKit Go.Proofs.Ytfdfnmlbmijdjaa Go.Proofs.Ytfdfnmlbmijdjaa.PRateApart Go.Proofs.YtfdfnmlbmijdjaaW.PrintWords Go.Proofs.YtfdfnmlbmijdjaaW.PrintLast Go.Proofs.YtfdfnmlbmijdjaaW.PrintMore
theorem RateApart : gimballaw27_RateApart.Pure := fun _ _ => ⟨0, rfl⟩
end Go.Proofs.Ytfdfnmlbmijdjaa.Pure
