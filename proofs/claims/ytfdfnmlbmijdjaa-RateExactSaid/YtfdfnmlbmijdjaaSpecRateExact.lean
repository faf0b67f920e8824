/-
  The pure statement of RateExact: what is to be proved of the function that the machine's call computes.
  No conditions.
-/
import Derived.Test.YtfdfnmlbmijdjaaPRateExactx6
namespace Go.Proofs.Ytfdfnmlbmijdjaa.PRateExact
open Go.RowKit Go.Proofs.YtfdfnmlbmijdjaaW.PrintWords Go.Proofs.YtfdfnmlbmijdjaaW.PrintLast Go.Proofs.YtfdfnmlbmijdjaaW.PrintMore
def wf29 (x : S29) : Prop := (Lit.int .i64 x.f0).wf = true ∧ (Lit.int .i64 x.f1).wf = true ∧ (Lit.int .i64 x.f2).wf = true ∧ (Lit.int .i64 x.f3).wf = true
def wf31 (x : S31) : Prop := (Lit.int .i64 x.f0).wf = true ∧ wf29 x.f1 ∧ (Lit.int .i64 x.f2).wf = true
def gimballaw27_RateExact.Pure : Prop := ∀ (l0 : List (S31)), (l0.length ≤ maxLen ∧ ∀ y ∈ l0, wf31 y) → ∃ k, gimballaw27_RateExact.f k l0 = some true
end Go.Proofs.Ytfdfnmlbmijdjaa.PRateExact
