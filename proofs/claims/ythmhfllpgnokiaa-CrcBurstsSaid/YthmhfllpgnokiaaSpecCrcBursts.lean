/-
  The pure statement of CrcBursts: what is to be proved of the function that the machine's call computes.
  No conditions.
-/
import Derived.Test.YthmhfllpgnokiaaPCrcBurstsx1
namespace Go.Proofs.Ythmhfllpgnokiaa.PCrcBursts
open Go.RowKit Go.Proofs.YthmhfllpgnokiaaW.PrintWords Go.Proofs.YthmhfllpgnokiaaW.PrintLast Go.Proofs.YthmhfllpgnokiaaW.PrintMore
def wf27 (x : S27) : Prop := (x.f0.length ≤ maxLen ∧ ∀ y ∈ x.f0, (Lit.int .u8 y).wf = true) ∧ (x.f1.length ≤ maxLen ∧ ∀ y ∈ x.f1, (Lit.int .u32 y).wf = true) ∧ (Lit.int .i64 x.f2).wf = true ∧ (Lit.int .u16 x.f3).wf = true
def gimballaw22_CrcBursts.Pure : Prop := ∀ (l0 : List (S27)), (l0.length ≤ maxLen ∧ ∀ y ∈ l0, wf27 y) → ∃ k, gimballaw22_CrcBursts.f k l0 = some true
end Go.Proofs.Ythmhfllpgnokiaa.PCrcBursts
