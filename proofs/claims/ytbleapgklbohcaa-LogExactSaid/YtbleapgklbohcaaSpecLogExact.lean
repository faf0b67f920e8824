/-
  The pure statement of LogExact: what is to be proved of the function that the machine's call computes.
  No conditions.
-/
import Derived.Test.YtbleapgklbohcaaPLogExactx6
namespace Go.Proofs.Ytbleapgklbohcaa.PLogExact
open Go.RowKit Go.Proofs.YtbleapgklbohcaaW.PrintWords Go.Proofs.YtbleapgklbohcaaW.PrintLast Go.Proofs.YtbleapgklbohcaaW.PrintMore
def wf25 (x : S25) : Prop := (Lit.int .i64 x.f0).wf = true ∧ (x.f1.length ≤ maxLen ∧ ∀ y ∈ x.f1, (Lit.int .u8 y).wf = true)
def wf30 (x : S30) : Prop := wf25 x.f0 ∧ (Lit.int .i64 x.f1).wf = true ∧ (Lit.int .u32 x.f2).wf = true ∧ (x.f3.length ≤ maxLen ∧ ∀ y ∈ x.f3, (Lit.int .u32 y).wf = true) ∧ (x.f4.length ≤ maxLen ∧ ∀ y ∈ x.f4, wf25 y) ∧ (Lit.int .i64 x.f5).wf = true
def gimballaw30_LogExact.Pure : Prop := ∀ (l0 : List (S30)), (l0.length ≤ maxLen ∧ ∀ y ∈ l0, wf30 y) → ∃ k, gimballaw30_LogExact.f k l0 = some true
end Go.Proofs.Ytbleapgklbohcaa.PLogExact
