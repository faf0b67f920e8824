/-
  The pure statement of BusRegisters: what is to be proved of the function that the machine's call computes.
  No conditions.
-/
import Derived.Test.YtpolofolibabiaaPBusRegistersx4
namespace Go.Proofs.Ytpolofolibabiaa.PBusRegisters
open Go.RowKit Go.Proofs.YtpolofolibabiaaW.PrintWords Go.Proofs.YtpolofolibabiaaW.PrintLast Go.Proofs.YtpolofolibabiaaW.PrintMore
def wf60 (x : S60) : Prop := (Lit.int .i64 x.f0).wf = true ∧ (Lit.int .i64 x.f1).wf = true ∧ (Lit.int .i64 x.f2).wf = true ∧ (Lit.int .i64 x.f3).wf = true
def wf35 (x : S35) : Prop := (Lit.int .i64 x.f0).wf = true ∧ (Lit.int .i64 x.f1).wf = true ∧ (x.f2.length ≤ maxLen ∧ ∀ y ∈ x.f2, wf60 y)
def wf54 (x : S54) : Prop := (Lit.int .i64 x.f0).wf = true ∧ (Lit.int .i64 x.f1).wf = true ∧ (Lit.int .i64 x.f2).wf = true ∧ (Lit.int .u8 x.f3).wf = true
def wf39 (x : S39) : Prop := (Lit.int .i64 x.f0).wf = true ∧ (Lit.int .i64 x.f1).wf = true ∧ (x.f2.length ≤ maxLen ∧ ∀ y ∈ x.f2, (Lit.int .u8 y).wf = true) ∧ (Lit.int .i64 x.f3).wf = true
def wf41 (x : S41) : Prop := (Lit.int .i64 x.f0).wf = true ∧ wf39 x.f1 ∧ (Lit.int .i64 x.f2).wf = true
def wf26 (x : S26) : Prop := (x.f0.length ≤ maxLen ∧ ∀ y ∈ x.f0, wf35 y) ∧ (x.f1.length ≤ maxLen ∧ ∀ y ∈ x.f1, wf54 y) ∧ (x.f2.length ≤ maxLen ∧ ∀ y ∈ x.f2, wf41 y)
def gimballaw8_BusRegisters.Pure : Prop := ∀ (p0 : S26), wf26 p0 → ∃ k, gimballaw8_BusRegisters.f k p0.f0 p0.f1 p0.f2 = some true
end Go.Proofs.Ytpolofolibabiaa.PBusRegisters
