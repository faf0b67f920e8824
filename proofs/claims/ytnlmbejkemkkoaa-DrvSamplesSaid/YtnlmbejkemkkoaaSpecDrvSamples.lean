/-
  The pure statement of DrvSamples: what is to be proved of the function that the machine's call computes.
  No conditions.
-/
import Derived.Test.YtnlmbejkemkkoaaPDrvSamplesx6
namespace Go.Proofs.Ytnlmbejkemkkoaa.PDrvSamples
open Go.RowKit Go.Proofs.YtnlmbejkemkkoaaW.PrintWords Go.Proofs.YtnlmbejkemkkoaaW.PrintLast Go.Proofs.YtnlmbejkemkkoaaW.PrintMore
def wf55 (x : S55) : Prop := (Lit.int .i64 x.f0).wf = true ∧ (Lit.int .i64 x.f1).wf = true ∧ (Lit.int .i64 x.f2).wf = true ∧ (Lit.int .i64 x.f3).wf = true
def wf52 (x : S52) : Prop := (x.f0.length ≤ maxLen ∧ ∀ y ∈ x.f0, wf55 y) ∧ (Lit.int .i64 x.f1).wf = true
def gimballaw9_DrvSamples.Pure : Prop := ∀ (p0 : S52), wf52 p0 → ∃ k, gimballaw9_DrvSamples.f k p0.f0 p0.f1 = some true
end Go.Proofs.Ytnlmbejkemkkoaa.PDrvSamples
