/-
  The pure statement of DrvExact: what is to be proved of the function that the machine's call computes.
  No conditions.
-/
import Derived.Test.YtnlmbejkemkkoaaPDrvExactx10
namespace Go.Proofs.Ytnlmbejkemkkoaa.PDrvExact
open Go.RowKit Go.Proofs.YtnlmbejkemkkoaaW.PrintWords Go.Proofs.YtnlmbejkemkkoaaW.PrintLast Go.Proofs.YtnlmbejkemkkoaaW.PrintMore
def wf24 (x : S24) : Prop := (Lit.int .i64 x.f0).wf = true ∧ (Lit.int .i64 x.f1).wf = true ∧ True ∧ (Lit.int .i64 x.f3).wf = true ∧ (Lit.int .i64 x.f4).wf = true ∧ (Lit.int .i64 x.f5).wf = true ∧ True ∧ (Lit.int .i64 x.f7).wf = true ∧ (Lit.int .i64 x.f8).wf = true
def wf27 (x : S27) : Prop := (Lit.int .i64 x.f0).wf = true ∧ (x.f1.length ≤ maxLen ∧ ∀ y ∈ x.f1, (Lit.int .u8 y).wf = true)
def wf29 (x : S29) : Prop := wf24 x.f0 ∧ True ∧ (Lit.int .i64 x.f2).wf = true ∧ wf27 x.f3
def gimballaw9_DrvExact.Pure : Prop := ∀ (l0 : List (S29)), (l0.length ≤ maxLen ∧ ∀ y ∈ l0, wf29 y) → ∃ k, gimballaw9_DrvExact.f k l0 = some true
end Go.Proofs.Ytnlmbejkemkkoaa.PDrvExact
