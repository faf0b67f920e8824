/-
  No cell of these rows narrows 'for every input' (looked for: loops, veiled, ifaces, maps, wideKeys, modest, calm, conditions, laid).
  DERIVED. THE GIVEN ROWS OF THIS SEAT. 3 by the template 'for every input the law returns true; each argument reads behind the call as it read before'; 0 by the template 'total and deterministic' (their statements: YtbicnidbffibbaaTotals.lean).
  GIVEN WITH THE SEED: the statements are not yours to turn. If you find one false, say at which input.
  Laid BY PROGRAM, IN A SANDBOX (cutbox-rows.mjs): the forced cells as the released guide's own fill.sh prints them over the translation 0850b987dbb3325f… (all of the seat's roots in one cut). By AI agents, Wed Nov 11 2026. No macro, syntax, notation, axiom, sorry.
-/
import Derived.Test.YtbicnidbffibbaaChecked
import GoSem.Claim
import GoSem.ClaimJoined
import GoSem.ClaimMapViews
import Derived.JoinedTies
import Derived.KernelRfl
namespace Go.Proofs.Ytbicnidbffibbaa
/- THE CELL 'sum', in the pinned program and in every row, IS THE sha256 OF THE DUMP (.gsa) THAT YtbicnidbffibbaaProg.lean LOADS. Nothing in Lean hashes anything: it is a label: what it is worth is what the hold of that sum in a sandbox is worth. -/
noncomputable def Try.pinned : Pinned := { name := "ytbicnidbffibbaa", sum := "0850b987dbb3325f18594a789b76a3c1506111313c86231b95806de2ac9214eb", checked := Try.checked }
namespace Rows
def none {H : Type} : Left H := { results := [], args := [] }

/-- 'gimballaw13.MedianExact': WHATEVER THE INPUT: true; the input reads as it did. -/
def medianExactSpec : ChangeSpec := { name := "medianExact", fn := fun _ => fun
  | [d] => { results := [.lit (.bool true)], args := [d] }
  | _ => none }
def medianExactRow : OpenClaim := { program := "ytbicnidbffibbaa", sum := "0850b987dbb3325f18594a789b76a3c1506111313c86231b95806de2ac9214eb", func := "gimbal/gimballaw13.MedianExact", spec := "medianExact", unfollowed := true, recurses := true, apart := false }
def MedianExactSaid : Prop := medianExactRow.holds Try.pinned (OpenSpec.ofChange medianExactSpec)

/-- ITS FALSE NEIGHBOUR: 'it returns false'. Refute it at one input. -/
def medianExactWrong : ChangeSpec := { name := "medianExact", fn := fun _ => fun
  | [d] => { results := [.lit (.bool false)], args := [d] }
  | _ => none }
def MedianExactWrongFalsely : Prop := medianExactRow.holds Try.pinned (OpenSpec.ofChange medianExactWrong)

/-- 'gimballaw13.MedianMiddle': WHATEVER THE INPUT: true; the input reads as it did. -/
def medianMiddleSpec : ChangeSpec := { name := "medianMiddle", fn := fun _ => fun
  | [d] => { results := [.lit (.bool true)], args := [d] }
  | _ => none }
def medianMiddleRow : OpenClaim := { program := "ytbicnidbffibbaa", sum := "0850b987dbb3325f18594a789b76a3c1506111313c86231b95806de2ac9214eb", func := "gimbal/gimballaw13.MedianMiddle", spec := "medianMiddle", unfollowed := true, recurses := true, apart := false }
def MedianMiddleSaid : Prop := medianMiddleRow.holds Try.pinned (OpenSpec.ofChange medianMiddleSpec)

/-- ITS FALSE NEIGHBOUR: 'it returns false'. Refute it at one input. -/
def medianMiddleWrong : ChangeSpec := { name := "medianMiddle", fn := fun _ => fun
  | [d] => { results := [.lit (.bool false)], args := [d] }
  | _ => none }
def MedianMiddleWrongFalsely : Prop := medianMiddleRow.holds Try.pinned (OpenSpec.ofChange medianMiddleWrong)

/-- 'gimballaw13.MedianOne': WHATEVER THE INPUT: true; the input reads as it did. -/
def medianOneSpec : ChangeSpec := { name := "medianOne", fn := fun _ => fun
  | [d] => { results := [.lit (.bool true)], args := [d] }
  | _ => none }
def medianOneRow : OpenClaim := { program := "ytbicnidbffibbaa", sum := "0850b987dbb3325f18594a789b76a3c1506111313c86231b95806de2ac9214eb", func := "gimbal/gimballaw13.MedianOne", spec := "medianOne", unfollowed := true, recurses := true, apart := false }
def MedianOneSaid : Prop := medianOneRow.holds Try.pinned (OpenSpec.ofChange medianOneSpec)

/-- ITS FALSE NEIGHBOUR: 'it returns false'. Refute it at one input. -/
def medianOneWrong : ChangeSpec := { name := "medianOne", fn := fun _ => fun
  | [d] => { results := [.lit (.bool false)], args := [d] }
  | _ => none }
def MedianOneWrongFalsely : Prop := medianOneRow.holds Try.pinned (OpenSpec.ofChange medianOneWrong)

/- THE SECOND FORM. 'bulk': how many values and letters a reading holds, each counted each time it is reached (what is shared counts as often as it is met; a slice's spare places count too). A statement '..UptoSaid' is the law's where the arguments, and the package variables that the reading takes, are together of bulk at most 1048576: NARROWER than '..Said'. Prove '..Said' where nothing that the law and all that it calls make is longer than what came in: it says more and counts as full. Else prove '..UptoSaid'. A law counts once. -/
mutual
def uptoBulk {H : Type} : DataW H → Nat
  | .lit (.string bytes) => bytes.length + 1
  | .lit _ => 1
  | .nil => 1
  | .ptr d => uptoBulk d + 1
  | .slice elems spare => uptoBulkAll elems + uptoBulkAll spare + 1
  | .agg parts => uptoBulkAll parts + 1
  | .iface _ d => uptoBulk d + 1
  | .map entries => uptoBulkEntries entries + 1
  | .held _ => 1
def uptoBulkAll {H : Type} : List (DataW H) → Nat
  | [] => 0
  | d :: r => uptoBulk d + uptoBulkAll r
def uptoBulkEntries {H : Type} : List (Lit × DataW H) → Nat
  | [] => 0
  | x :: r => uptoBulkEntry x + uptoBulkEntries r
def uptoBulkEntry {H : Type} : Lit × DataW H → Nat
  | (.string bytes, d) => bytes.length + uptoBulk d + 1
  | (_, d) => uptoBulk d + 1
 end
def uptoSmall : (H : Type) → List (DataW H) → Bool := fun _ ds => decide (uptoBulkAll ds ≤ 1048576)
def OpenSpec.upto (s : _root_.Go.ChangeSpec) : _root_.Go.OpenSpec := { _root_.Go.OpenSpec.ofChange s with cond := some uptoSmall }

/-- 'gimballaw13.MedianExact', WHERE WHAT IT READS IS OF BULK AT MOST 1048576: true; the input reads as it did. -/
def medianExactUptoRow : OpenClaim := { program := "ytbicnidbffibbaa", sum := "0850b987dbb3325f18594a789b76a3c1506111313c86231b95806de2ac9214eb", func := "gimbal/gimballaw13.MedianExact", spec := "medianExact", unfollowed := true, recurses := true, apart := false, narrowed := true }
def MedianExactUptoSaid : Prop := medianExactUptoRow.holds Try.pinned (OpenSpec.upto medianExactSpec)

/-- 'gimballaw13.MedianMiddle', WHERE WHAT IT READS IS OF BULK AT MOST 1048576: true; the input reads as it did. -/
def medianMiddleUptoRow : OpenClaim := { program := "ytbicnidbffibbaa", sum := "0850b987dbb3325f18594a789b76a3c1506111313c86231b95806de2ac9214eb", func := "gimbal/gimballaw13.MedianMiddle", spec := "medianMiddle", unfollowed := true, recurses := true, apart := false, narrowed := true }
def MedianMiddleUptoSaid : Prop := medianMiddleUptoRow.holds Try.pinned (OpenSpec.upto medianMiddleSpec)

/-- 'gimballaw13.MedianOne', WHERE WHAT IT READS IS OF BULK AT MOST 1048576: true; the input reads as it did. -/
def medianOneUptoRow : OpenClaim := { program := "ytbicnidbffibbaa", sum := "0850b987dbb3325f18594a789b76a3c1506111313c86231b95806de2ac9214eb", func := "gimbal/gimballaw13.MedianOne", spec := "medianOne", unfollowed := true, recurses := true, apart := false, narrowed := true }
def MedianOneUptoSaid : Prop := medianOneUptoRow.holds Try.pinned (OpenSpec.upto medianOneSpec)

end Rows
end Go.Proofs.Ytbicnidbffibbaa
