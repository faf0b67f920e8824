/-
  No cell of these rows narrows 'for every input' (looked for: loops, veiled, ifaces, maps, wideKeys, modest, calm, conditions, laid).
  DERIVED. THE GIVEN ROWS OF THIS SEAT. 4 by the template 'for every input the law returns true; each argument reads behind the call as it read before'; 0 by the template 'total and deterministic' (their statements: YtpolofolibabiaaTotals.lean).
  GIVEN WITH THE SEED: the statements are not yours to turn. If you find one false, say at which input.
  Laid BY PROGRAM, IN A SANDBOX (cutbox-rows.mjs): the forced cells as the released guide's own fill.sh prints them over the translation b1746f42a81268c2… (all of the seat's roots in one cut). By AI agents, Wed Nov 11 2026. No macro, syntax, notation, axiom, sorry.
-/
import Derived.Test.YtpolofolibabiaaChecked
import GoSem.Claim
import GoSem.ClaimJoined
import GoSem.ClaimMapViews
import Derived.JoinedTies
import Derived.KernelRfl
namespace Go.Proofs.Ytpolofolibabiaa
/- THE CELL 'sum', in the pinned program and in every row, IS THE sha256 OF THE DUMP (.gsa) THAT YtpolofolibabiaaProg.lean LOADS. Nothing in Lean hashes anything: it is a label: what it is worth is what the hold of that sum in a sandbox is worth. -/
noncomputable def Try.pinned : Pinned := { name := "ytpolofolibabiaa", sum := "b1746f42a81268c2b56bd30c8a5f27da014f93d5107d43cde055d9437c0adad0", checked := Try.checked }
namespace Rows
def none {H : Type} : Left H := { results := [], args := [] }

/-- 'gimballaw8.BusRegisters': WHATEVER THE INPUT: true; the input reads as it did. -/
def busRegistersSpec : ChangeSpec := { name := "busRegisters", fn := fun _ => fun
  | [d] => { results := [.lit (.bool true)], args := [d] }
  | _ => none }
def busRegistersRow : OpenClaim := { program := "ytpolofolibabiaa", sum := "b1746f42a81268c2b56bd30c8a5f27da014f93d5107d43cde055d9437c0adad0", func := "gimbal/gimballaw8.BusRegisters", spec := "busRegisters", apart := false }
def BusRegistersSaid : Prop := busRegistersRow.holds Try.pinned (OpenSpec.ofChange busRegistersSpec)

/-- ITS FALSE NEIGHBOUR: 'it returns false'. Refute it at one input. -/
def busRegistersWrong : ChangeSpec := { name := "busRegisters", fn := fun _ => fun
  | [d] => { results := [.lit (.bool false)], args := [d] }
  | _ => none }
def BusRegistersWrongFalsely : Prop := busRegistersRow.holds Try.pinned (OpenSpec.ofChange busRegistersWrong)

/-- 'gimballaw8.BusFaults': WHATEVER THE INPUT: true; the input reads as it did. -/
def busFaultsSpec : ChangeSpec := { name := "busFaults", fn := fun _ => fun
  | [d] => { results := [.lit (.bool true)], args := [d] }
  | _ => none }
def busFaultsRow : OpenClaim := { program := "ytpolofolibabiaa", sum := "b1746f42a81268c2b56bd30c8a5f27da014f93d5107d43cde055d9437c0adad0", func := "gimbal/gimballaw8.BusFaults", spec := "busFaults", apart := false }
def BusFaultsSaid : Prop := busFaultsRow.holds Try.pinned (OpenSpec.ofChange busFaultsSpec)

/-- ITS FALSE NEIGHBOUR: 'it returns false'. Refute it at one input. -/
def busFaultsWrong : ChangeSpec := { name := "busFaults", fn := fun _ => fun
  | [d] => { results := [.lit (.bool false)], args := [d] }
  | _ => none }
def BusFaultsWrongFalsely : Prop := busFaultsRow.holds Try.pinned (OpenSpec.ofChange busFaultsWrong)

/-- 'gimballaw8.BusSamples': WHATEVER THE INPUT: true; the input reads as it did. -/
def busSamplesSpec : ChangeSpec := { name := "busSamples", fn := fun _ => fun
  | [d] => { results := [.lit (.bool true)], args := [d] }
  | _ => none }
def busSamplesRow : OpenClaim := { program := "ytpolofolibabiaa", sum := "b1746f42a81268c2b56bd30c8a5f27da014f93d5107d43cde055d9437c0adad0", func := "gimbal/gimballaw8.BusSamples", spec := "busSamples", apart := false }
def BusSamplesSaid : Prop := busSamplesRow.holds Try.pinned (OpenSpec.ofChange busSamplesSpec)

/-- ITS FALSE NEIGHBOUR: 'it returns false'. Refute it at one input. -/
def busSamplesWrong : ChangeSpec := { name := "busSamples", fn := fun _ => fun
  | [d] => { results := [.lit (.bool false)], args := [d] }
  | _ => none }
def BusSamplesWrongFalsely : Prop := busSamplesRow.holds Try.pinned (OpenSpec.ofChange busSamplesWrong)

/-- 'gimballaw8.BusExact': WHATEVER THE INPUT: true; the input reads as it did. -/
def busExactSpec : ChangeSpec := { name := "busExact", fn := fun _ => fun
  | [d] => { results := [.lit (.bool true)], args := [d] }
  | _ => none }
def busExactRow : OpenClaim := { program := "ytpolofolibabiaa", sum := "b1746f42a81268c2b56bd30c8a5f27da014f93d5107d43cde055d9437c0adad0", func := "gimbal/gimballaw8.BusExact", spec := "busExact", apart := false }
def BusExactSaid : Prop := busExactRow.holds Try.pinned (OpenSpec.ofChange busExactSpec)

/-- ITS FALSE NEIGHBOUR: 'it returns false'. Refute it at one input. -/
def busExactWrong : ChangeSpec := { name := "busExact", fn := fun _ => fun
  | [d] => { results := [.lit (.bool false)], args := [d] }
  | _ => none }
def BusExactWrongFalsely : Prop := busExactRow.holds Try.pinned (OpenSpec.ofChange busExactWrong)

/- THE SECOND FORM. 'bulk': how many values and letters a reading holds, each counted each time it is reached (what is shared counts as often as it is met; a slice's spare places count too). A statement '..UptoSaid' is the law's where the arguments, and the package variables that the reading takes, are together of bulk at most 1048576: NARROWER than '..Said'. Prove '..Said' where nothing that the law and all that it calls make is longer than what came in: it says more and counts as full. Else prove '..UptoSaid'. A law counts once. -/
mutual
def uptoBulk {H : Type} : DataW H → Nat
  | .lit (.string bytes) => bytes.length + 1
  | .lit _ => 1
  | .nil => 1
  | .ptr d => uptoBulk d + 1
  | .slice elems spare => uptoBulkAll elems + uptoBulkAll spare + 1
  | .agg parts => uptoBulkAll parts + 1
  | .iface _ d => uptoBulk d + 1
  | .map entries => uptoBulkEntries entries + 1
  | .held _ => 1
def uptoBulkAll {H : Type} : List (DataW H) → Nat
  | [] => 0
  | d :: r => uptoBulk d + uptoBulkAll r
def uptoBulkEntries {H : Type} : List (Lit × DataW H) → Nat
  | [] => 0
  | x :: r => uptoBulkEntry x + uptoBulkEntries r
def uptoBulkEntry {H : Type} : Lit × DataW H → Nat
  | (.string bytes, d) => bytes.length + uptoBulk d + 1
  | (_, d) => uptoBulk d + 1
 end
def uptoSmall : (H : Type) → List (DataW H) → Bool := fun _ ds => decide (uptoBulkAll ds ≤ 1048576)
def OpenSpec.upto (s : _root_.Go.ChangeSpec) : _root_.Go.OpenSpec := { _root_.Go.OpenSpec.ofChange s with cond := some uptoSmall }

/-- 'gimballaw8.BusRegisters', WHERE WHAT IT READS IS OF BULK AT MOST 1048576: true; the input reads as it did. -/
def busRegistersUptoRow : OpenClaim := { program := "ytpolofolibabiaa", sum := "b1746f42a81268c2b56bd30c8a5f27da014f93d5107d43cde055d9437c0adad0", func := "gimbal/gimballaw8.BusRegisters", spec := "busRegisters", apart := false, narrowed := true }
def BusRegistersUptoSaid : Prop := busRegistersUptoRow.holds Try.pinned (OpenSpec.upto busRegistersSpec)

/-- 'gimballaw8.BusFaults', WHERE WHAT IT READS IS OF BULK AT MOST 1048576: true; the input reads as it did. -/
def busFaultsUptoRow : OpenClaim := { program := "ytpolofolibabiaa", sum := "b1746f42a81268c2b56bd30c8a5f27da014f93d5107d43cde055d9437c0adad0", func := "gimbal/gimballaw8.BusFaults", spec := "busFaults", apart := false, narrowed := true }
def BusFaultsUptoSaid : Prop := busFaultsUptoRow.holds Try.pinned (OpenSpec.upto busFaultsSpec)

/-- 'gimballaw8.BusSamples', WHERE WHAT IT READS IS OF BULK AT MOST 1048576: true; the input reads as it did. -/
def busSamplesUptoRow : OpenClaim := { program := "ytpolofolibabiaa", sum := "b1746f42a81268c2b56bd30c8a5f27da014f93d5107d43cde055d9437c0adad0", func := "gimbal/gimballaw8.BusSamples", spec := "busSamples", apart := false, narrowed := true }
def BusSamplesUptoSaid : Prop := busSamplesUptoRow.holds Try.pinned (OpenSpec.upto busSamplesSpec)

/-- 'gimballaw8.BusExact', WHERE WHAT IT READS IS OF BULK AT MOST 1048576: true; the input reads as it did. -/
def busExactUptoRow : OpenClaim := { program := "ytpolofolibabiaa", sum := "b1746f42a81268c2b56bd30c8a5f27da014f93d5107d43cde055d9437c0adad0", func := "gimbal/gimballaw8.BusExact", spec := "busExact", apart := false, narrowed := true }
def BusExactUptoSaid : Prop := busExactUptoRow.holds Try.pinned (OpenSpec.upto busExactSpec)

end Rows
end Go.Proofs.Ytpolofolibabiaa
