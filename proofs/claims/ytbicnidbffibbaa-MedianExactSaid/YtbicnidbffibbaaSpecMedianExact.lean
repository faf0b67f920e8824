/-
  The pure statement of MedianExact: what is to be proved of the function that the machine's call computes.
  No conditions.
-/
import Derived.Test.YtbicnidbffibbaaPMedianExactx6
namespace Go.Proofs.Ytbicnidbffibbaa.PMedianExact
open Go.RowKit Go.Proofs.YtbicnidbffibbaaW.PrintWords Go.Proofs.YtbicnidbffibbaaW.PrintLast Go.Proofs.YtbicnidbffibbaaW.PrintMore
def wf25 (x : S25) : Prop := (Lit.int .i64 x.f0).wf = true ∧ (Lit.int .i64 x.f1).wf = true ∧ (Lit.int .i64 x.f2).wf = true
def wf27 (x : S27) : Prop := (x.f0.length ≤ maxLen ∧ ∀ y ∈ x.f0, wf25 y) ∧ (Lit.int .i64 x.f1).wf = true ∧ wf25 x.f2
def gimballaw13_MedianExact.Pure : Prop := ∀ (l0 : List (S27)), (l0.length ≤ maxLen ∧ ∀ y ∈ l0, wf27 y) → ∃ k, gimballaw13_MedianExact.f k l0 = some true
end Go.Proofs.Ytbicnidbffibbaa.PMedianExact
