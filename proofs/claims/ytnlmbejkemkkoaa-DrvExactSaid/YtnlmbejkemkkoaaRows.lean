/-
  No cell of these rows narrows 'for every input' (looked for: loops, veiled, ifaces, maps, wideKeys, modest, calm, conditions, laid).
  DERIVED. THE GIVEN ROWS OF THIS SEAT. 6 by the template 'for every input the law returns true; each argument reads behind the call as it read before'; 0 by the template 'total and deterministic' (their statements: YtnlmbejkemkkoaaTotals.lean).
  GIVEN WITH THE SEED: the statements are not yours to turn. If you find one false, say at which input.
  Laid BY PROGRAM, IN A SANDBOX (cutbox-rows.mjs): the forced cells as the released guide's own fill.sh prints them over the translation fcf878710d8cdfb7… (all of the seat's roots in one cut). By AI agents, Wed Nov 11 2026. No macro, syntax, notation, axiom, sorry.
-/
import Derived.Test.YtnlmbejkemkkoaaChecked
import GoSem.Claim
import GoSem.ClaimJoined
import GoSem.ClaimMapViews
import Derived.JoinedTies
import Derived.KernelRfl
namespace Go.Proofs.Ytnlmbejkemkkoaa
/- THE CELL 'sum', in the pinned program and in every row, IS THE sha256 OF THE DUMP (.gsa) THAT YtnlmbejkemkkoaaProg.lean LOADS. Nothing in Lean hashes anything: it is a label: what it is worth is what the hold of that sum in a sandbox is worth. -/
noncomputable def Try.pinned : Pinned := { name := "ytnlmbejkemkkoaa", sum := "fcf878710d8cdfb7ca33536eba553046079d2e010d0718037614e3585b672edf", checked := Try.checked }
namespace Rows
def none {H : Type} : Left H := { results := [], args := [] }

/-- 'gimballaw9.DrvNexts': WHATEVER THE INPUT: true; the input reads as it did. -/
def drvNextsSpec : ChangeSpec := { name := "drvNexts", fn := fun _ => fun
  | [d] => { results := [.lit (.bool true)], args := [d] }
  | _ => none }
def drvNextsRow : OpenClaim := { program := "ytnlmbejkemkkoaa", sum := "fcf878710d8cdfb7ca33536eba553046079d2e010d0718037614e3585b672edf", func := "gimbal/gimballaw9.DrvNexts", spec := "drvNexts", unfollowed := true, recurses := true, apart := false }
def DrvNextsSaid : Prop := drvNextsRow.holds Try.pinned (OpenSpec.ofChange drvNextsSpec)

/-- ITS FALSE NEIGHBOUR: 'it returns false'. Refute it at one input. -/
def drvNextsWrong : ChangeSpec := { name := "drvNexts", fn := fun _ => fun
  | [d] => { results := [.lit (.bool false)], args := [d] }
  | _ => none }
def DrvNextsWrongFalsely : Prop := drvNextsRow.holds Try.pinned (OpenSpec.ofChange drvNextsWrong)

/-- 'gimballaw9.DrvSets': WHATEVER THE INPUT: true; the input reads as it did. -/
def drvSetsSpec : ChangeSpec := { name := "drvSets", fn := fun _ => fun
  | [d] => { results := [.lit (.bool true)], args := [d] }
  | _ => none }
def drvSetsRow : OpenClaim := { program := "ytnlmbejkemkkoaa", sum := "fcf878710d8cdfb7ca33536eba553046079d2e010d0718037614e3585b672edf", func := "gimbal/gimballaw9.DrvSets", spec := "drvSets", unfollowed := true, recurses := true, apart := false }
def DrvSetsSaid : Prop := drvSetsRow.holds Try.pinned (OpenSpec.ofChange drvSetsSpec)

/-- ITS FALSE NEIGHBOUR: 'it returns false'. Refute it at one input. -/
def drvSetsWrong : ChangeSpec := { name := "drvSets", fn := fun _ => fun
  | [d] => { results := [.lit (.bool false)], args := [d] }
  | _ => none }
def DrvSetsWrongFalsely : Prop := drvSetsRow.holds Try.pinned (OpenSpec.ofChange drvSetsWrong)

/-- 'gimballaw9.DrvFails': WHATEVER THE INPUT: true; the input reads as it did. -/
def drvFailsSpec : ChangeSpec := { name := "drvFails", fn := fun _ => fun
  | [d] => { results := [.lit (.bool true)], args := [d] }
  | _ => none }
def drvFailsRow : OpenClaim := { program := "ytnlmbejkemkkoaa", sum := "fcf878710d8cdfb7ca33536eba553046079d2e010d0718037614e3585b672edf", func := "gimbal/gimballaw9.DrvFails", spec := "drvFails", unfollowed := true, recurses := true, apart := false }
def DrvFailsSaid : Prop := drvFailsRow.holds Try.pinned (OpenSpec.ofChange drvFailsSpec)

/-- ITS FALSE NEIGHBOUR: 'it returns false'. Refute it at one input. -/
def drvFailsWrong : ChangeSpec := { name := "drvFails", fn := fun _ => fun
  | [d] => { results := [.lit (.bool false)], args := [d] }
  | _ => none }
def DrvFailsWrongFalsely : Prop := drvFailsRow.holds Try.pinned (OpenSpec.ofChange drvFailsWrong)

/-- 'gimballaw9.DrvSamples': WHATEVER THE INPUT: true; the input reads as it did. -/
def drvSamplesSpec : ChangeSpec := { name := "drvSamples", fn := fun _ => fun
  | [d] => { results := [.lit (.bool true)], args := [d] }
  | _ => none }
def drvSamplesRow : OpenClaim := { program := "ytnlmbejkemkkoaa", sum := "fcf878710d8cdfb7ca33536eba553046079d2e010d0718037614e3585b672edf", func := "gimbal/gimballaw9.DrvSamples", spec := "drvSamples", unfollowed := true, recurses := true, apart := false }
def DrvSamplesSaid : Prop := drvSamplesRow.holds Try.pinned (OpenSpec.ofChange drvSamplesSpec)

/-- ITS FALSE NEIGHBOUR: 'it returns false'. Refute it at one input. -/
def drvSamplesWrong : ChangeSpec := { name := "drvSamples", fn := fun _ => fun
  | [d] => { results := [.lit (.bool false)], args := [d] }
  | _ => none }
def DrvSamplesWrongFalsely : Prop := drvSamplesRow.holds Try.pinned (OpenSpec.ofChange drvSamplesWrong)

/-- 'gimballaw9.DrvExact': WHATEVER THE INPUT: true; the input reads as it did. -/
def drvExactSpec : ChangeSpec := { name := "drvExact", fn := fun _ => fun
  | [d] => { results := [.lit (.bool true)], args := [d] }
  | _ => none }
def drvExactRow : OpenClaim := { program := "ytnlmbejkemkkoaa", sum := "fcf878710d8cdfb7ca33536eba553046079d2e010d0718037614e3585b672edf", func := "gimbal/gimballaw9.DrvExact", spec := "drvExact", unfollowed := true, recurses := true, apart := false }
def DrvExactSaid : Prop := drvExactRow.holds Try.pinned (OpenSpec.ofChange drvExactSpec)

/-- ITS FALSE NEIGHBOUR: 'it returns false'. Refute it at one input. -/
def drvExactWrong : ChangeSpec := { name := "drvExact", fn := fun _ => fun
  | [d] => { results := [.lit (.bool false)], args := [d] }
  | _ => none }
def DrvExactWrongFalsely : Prop := drvExactRow.holds Try.pinned (OpenSpec.ofChange drvExactWrong)

/-- 'gimballaw9.DrvBus': WHATEVER THE INPUT: true; the input reads as it did. -/
def drvBusSpec : ChangeSpec := { name := "drvBus", fn := fun _ => fun
  | [d] => { results := [.lit (.bool true)], args := [d] }
  | _ => none }
def drvBusRow : OpenClaim := { program := "ytnlmbejkemkkoaa", sum := "fcf878710d8cdfb7ca33536eba553046079d2e010d0718037614e3585b672edf", func := "gimbal/gimballaw9.DrvBus", spec := "drvBus", unfollowed := true, recurses := true, apart := false }
def DrvBusSaid : Prop := drvBusRow.holds Try.pinned (OpenSpec.ofChange drvBusSpec)

/-- ITS FALSE NEIGHBOUR: 'it returns false'. Refute it at one input. -/
def drvBusWrong : ChangeSpec := { name := "drvBus", fn := fun _ => fun
  | [d] => { results := [.lit (.bool false)], args := [d] }
  | _ => none }
def DrvBusWrongFalsely : Prop := drvBusRow.holds Try.pinned (OpenSpec.ofChange drvBusWrong)

/- THE SECOND FORM. 'bulk': how many values and letters a reading holds, each counted each time it is reached (what is shared counts as often as it is met; a slice's spare places count too). A statement '..UptoSaid' is the law's where the arguments, and the package variables that the reading takes, are together of bulk at most 1048576: NARROWER than '..Said'. Prove '..Said' where nothing that the law and all that it calls make is longer than what came in: it says more and counts as full. Else prove '..UptoSaid'. A law counts once. -/
mutual
def uptoBulk {H : Type} : DataW H → Nat
  | .lit (.string bytes) => bytes.length + 1
  | .lit _ => 1
  | .nil => 1
  | .ptr d => uptoBulk d + 1
  | .slice elems spare => uptoBulkAll elems + uptoBulkAll spare + 1
  | .agg parts => uptoBulkAll parts + 1
  | .iface _ d => uptoBulk d + 1
  | .map entries => uptoBulkEntries entries + 1
  | .held _ => 1
def uptoBulkAll {H : Type} : List (DataW H) → Nat
  | [] => 0
  | d :: r => uptoBulk d + uptoBulkAll r
def uptoBulkEntries {H : Type} : List (Lit × DataW H) → Nat
  | [] => 0
  | x :: r => uptoBulkEntry x + uptoBulkEntries r
def uptoBulkEntry {H : Type} : Lit × DataW H → Nat
  | (.string bytes, d) => bytes.length + uptoBulk d + 1
  | (_, d) => uptoBulk d + 1
 end
def uptoSmall : (H : Type) → List (DataW H) → Bool := fun _ ds => decide (uptoBulkAll ds ≤ 1048576)
def OpenSpec.upto (s : _root_.Go.ChangeSpec) : _root_.Go.OpenSpec := { _root_.Go.OpenSpec.ofChange s with cond := some uptoSmall }

/-- 'gimballaw9.DrvNexts', WHERE WHAT IT READS IS OF BULK AT MOST 1048576: true; the input reads as it did. -/
def drvNextsUptoRow : OpenClaim := { program := "ytnlmbejkemkkoaa", sum := "fcf878710d8cdfb7ca33536eba553046079d2e010d0718037614e3585b672edf", func := "gimbal/gimballaw9.DrvNexts", spec := "drvNexts", unfollowed := true, recurses := true, apart := false, narrowed := true }
def DrvNextsUptoSaid : Prop := drvNextsUptoRow.holds Try.pinned (OpenSpec.upto drvNextsSpec)

/-- 'gimballaw9.DrvSets', WHERE WHAT IT READS IS OF BULK AT MOST 1048576: true; the input reads as it did. -/
def drvSetsUptoRow : OpenClaim := { program := "ytnlmbejkemkkoaa", sum := "fcf878710d8cdfb7ca33536eba553046079d2e010d0718037614e3585b672edf", func := "gimbal/gimballaw9.DrvSets", spec := "drvSets", unfollowed := true, recurses := true, apart := false, narrowed := true }
def DrvSetsUptoSaid : Prop := drvSetsUptoRow.holds Try.pinned (OpenSpec.upto drvSetsSpec)

/-- 'gimballaw9.DrvFails', WHERE WHAT IT READS IS OF BULK AT MOST 1048576: true; the input reads as it did. -/
def drvFailsUptoRow : OpenClaim := { program := "ytnlmbejkemkkoaa", sum := "fcf878710d8cdfb7ca33536eba553046079d2e010d0718037614e3585b672edf", func := "gimbal/gimballaw9.DrvFails", spec := "drvFails", unfollowed := true, recurses := true, apart := false, narrowed := true }
def DrvFailsUptoSaid : Prop := drvFailsUptoRow.holds Try.pinned (OpenSpec.upto drvFailsSpec)

/-- 'gimballaw9.DrvSamples', WHERE WHAT IT READS IS OF BULK AT MOST 1048576: true; the input reads as it did. -/
def drvSamplesUptoRow : OpenClaim := { program := "ytnlmbejkemkkoaa", sum := "fcf878710d8cdfb7ca33536eba553046079d2e010d0718037614e3585b672edf", func := "gimbal/gimballaw9.DrvSamples", spec := "drvSamples", unfollowed := true, recurses := true, apart := false, narrowed := true }
def DrvSamplesUptoSaid : Prop := drvSamplesUptoRow.holds Try.pinned (OpenSpec.upto drvSamplesSpec)

/-- 'gimballaw9.DrvExact', WHERE WHAT IT READS IS OF BULK AT MOST 1048576: true; the input reads as it did. -/
def drvExactUptoRow : OpenClaim := { program := "ytnlmbejkemkkoaa", sum := "fcf878710d8cdfb7ca33536eba553046079d2e010d0718037614e3585b672edf", func := "gimbal/gimballaw9.DrvExact", spec := "drvExact", unfollowed := true, recurses := true, apart := false, narrowed := true }
def DrvExactUptoSaid : Prop := drvExactUptoRow.holds Try.pinned (OpenSpec.upto drvExactSpec)

/-- 'gimballaw9.DrvBus', WHERE WHAT IT READS IS OF BULK AT MOST 1048576: true; the input reads as it did. -/
def drvBusUptoRow : OpenClaim := { program := "ytnlmbejkemkkoaa", sum := "fcf878710d8cdfb7ca33536eba553046079d2e010d0718037614e3585b672edf", func := "gimbal/gimballaw9.DrvBus", spec := "drvBus", unfollowed := true, recurses := true, apart := false, narrowed := true }
def DrvBusUptoSaid : Prop := drvBusUptoRow.holds Try.pinned (OpenSpec.upto drvBusSpec)

end Rows
end Go.Proofs.Ytnlmbejkemkkoaa
