/-
  No cell of these rows narrows 'for every input' (looked for: loops, veiled, ifaces, maps, wideKeys, modest, calm, conditions, laid).
  DERIVED. THE GIVEN ROWS OF THIS SEAT. 3 by the template 'for every input the law returns true; each argument reads behind the call as it read before'; 0 by the template 'total and deterministic' (their statements: YtfdfnmlbmijdjaaTotals.lean).
  GIVEN WITH THE SEED: the statements are not yours to turn. If you find one false, say at which input.
  Laid BY PROGRAM, IN A SANDBOX (cutbox-rows.mjs): the forced cells as the released guide's own fill.sh prints them over the translation b9a19907e43e3095… (all of the seat's roots in one cut). By AI agents, Wed Nov 11 2026. No macro, syntax, notation, axiom, sorry.
-/
import Derived.Test.YtfdfnmlbmijdjaaChecked
import GoSem.Claim
import GoSem.ClaimJoined
import GoSem.ClaimMapViews
import Derived.JoinedTies
import Derived.KernelRfl
namespace Go.Proofs.Ytfdfnmlbmijdjaa
/- THE CELL 'sum', in the pinned program and in every row, IS THE sha256 OF THE DUMP (.gsa) THAT YtfdfnmlbmijdjaaProg.lean LOADS. Nothing in Lean hashes anything: it is a label: what it is worth is what the hold of that sum in a sandbox is worth. -/
noncomputable def Try.pinned : Pinned := { name := "ytfdfnmlbmijdjaa", sum := "b9a19907e43e3095013cf32603487229572bf0de47207dddafa515c7778aedf4", checked := Try.checked }
namespace Rows
def none {H : Type} : Left H := { results := [], args := [] }

/-- 'gimballaw27.RateApart': WHATEVER THE INPUT: true; the input reads as it did. -/
def rateApartSpec : ChangeSpec := { name := "rateApart", fn := fun _ => fun
  | [d] => { results := [.lit (.bool true)], args := [d] }
  | _ => none }
def rateApartRow : OpenClaim := { program := "ytfdfnmlbmijdjaa", sum := "b9a19907e43e3095013cf32603487229572bf0de47207dddafa515c7778aedf4", func := "gimbal/gimballaw27.RateApart", spec := "rateApart", inPlace := ["slices.overlaps[gimbal/rate.entry[gimbal/rate.key, gimbal/rate.sub]]"], unfollowed := true, recurses := true, apart := false }
def RateApartSaid : Prop := rateApartRow.holds Try.pinned (OpenSpec.ofChange rateApartSpec)

/-- ITS FALSE NEIGHBOUR: 'it returns false'. Refute it at one input. -/
def rateApartWrong : ChangeSpec := { name := "rateApart", fn := fun _ => fun
  | [d] => { results := [.lit (.bool false)], args := [d] }
  | _ => none }
def RateApartWrongFalsely : Prop := rateApartRow.holds Try.pinned (OpenSpec.ofChange rateApartWrong)

/-- 'gimballaw27.RateTables': WHATEVER THE INPUT: true; the input reads as it did. -/
def rateTablesSpec : ChangeSpec := { name := "rateTables", fn := fun _ => fun
  | [d] => { results := [.lit (.bool true)], args := [d] }
  | _ => none }
def rateTablesRow : OpenClaim := { program := "ytfdfnmlbmijdjaa", sum := "b9a19907e43e3095013cf32603487229572bf0de47207dddafa515c7778aedf4", func := "gimbal/gimballaw27.RateTables", spec := "rateTables", inPlace := ["slices.overlaps[gimbal/rate.entry[gimbal/rate.key, gimbal/rate.sub]]"], unfollowed := true, recurses := true, apart := false }
def RateTablesSaid : Prop := rateTablesRow.holds Try.pinned (OpenSpec.ofChange rateTablesSpec)

/-- ITS FALSE NEIGHBOUR: 'it returns false'. Refute it at one input. -/
def rateTablesWrong : ChangeSpec := { name := "rateTables", fn := fun _ => fun
  | [d] => { results := [.lit (.bool false)], args := [d] }
  | _ => none }
def RateTablesWrongFalsely : Prop := rateTablesRow.holds Try.pinned (OpenSpec.ofChange rateTablesWrong)

/-- 'gimballaw27.RateExact': WHATEVER THE INPUT: true; the input reads as it did. -/
def rateExactSpec : ChangeSpec := { name := "rateExact", fn := fun _ => fun
  | [d] => { results := [.lit (.bool true)], args := [d] }
  | _ => none }
def rateExactRow : OpenClaim := { program := "ytfdfnmlbmijdjaa", sum := "b9a19907e43e3095013cf32603487229572bf0de47207dddafa515c7778aedf4", func := "gimbal/gimballaw27.RateExact", spec := "rateExact", inPlace := ["slices.overlaps[gimbal/rate.entry[gimbal/rate.key, gimbal/rate.sub]]"], unfollowed := true, recurses := true, apart := false }
def RateExactSaid : Prop := rateExactRow.holds Try.pinned (OpenSpec.ofChange rateExactSpec)

/-- ITS FALSE NEIGHBOUR: 'it returns false'. Refute it at one input. -/
def rateExactWrong : ChangeSpec := { name := "rateExact", fn := fun _ => fun
  | [d] => { results := [.lit (.bool false)], args := [d] }
  | _ => none }
def RateExactWrongFalsely : Prop := rateExactRow.holds Try.pinned (OpenSpec.ofChange rateExactWrong)

/- THE SECOND FORM. 'bulk': how many values and letters a reading holds, each counted each time it is reached (what is shared counts as often as it is met; a slice's spare places count too). A statement '..UptoSaid' is the law's where the arguments, and the package variables that the reading takes, are together of bulk at most 1048576: NARROWER than '..Said'. Prove '..Said' where nothing that the law and all that it calls make is longer than what came in: it says more and counts as full. Else prove '..UptoSaid'. A law counts once. -/
mutual
def uptoBulk {H : Type} : DataW H → Nat
  | .lit (.string bytes) => bytes.length + 1
  | .lit _ => 1
  | .nil => 1
  | .ptr d => uptoBulk d + 1
  | .slice elems spare => uptoBulkAll elems + uptoBulkAll spare + 1
  | .agg parts => uptoBulkAll parts + 1
  | .iface _ d => uptoBulk d + 1
  | .map entries => uptoBulkEntries entries + 1
  | .held _ => 1
def uptoBulkAll {H : Type} : List (DataW H) → Nat
  | [] => 0
  | d :: r => uptoBulk d + uptoBulkAll r
def uptoBulkEntries {H : Type} : List (Lit × DataW H) → Nat
  | [] => 0
  | x :: r => uptoBulkEntry x + uptoBulkEntries r
def uptoBulkEntry {H : Type} : Lit × DataW H → Nat
  | (.string bytes, d) => bytes.length + uptoBulk d + 1
  | (_, d) => uptoBulk d + 1
 end
def uptoSmall : (H : Type) → List (DataW H) → Bool := fun _ ds => decide (uptoBulkAll ds ≤ 1048576)
def OpenSpec.upto (s : _root_.Go.ChangeSpec) : _root_.Go.OpenSpec := { _root_.Go.OpenSpec.ofChange s with cond := some uptoSmall }

/-- 'gimballaw27.RateApart', WHERE WHAT IT READS IS OF BULK AT MOST 1048576: true; the input reads as it did. -/
def rateApartUptoRow : OpenClaim := { program := "ytfdfnmlbmijdjaa", sum := "b9a19907e43e3095013cf32603487229572bf0de47207dddafa515c7778aedf4", func := "gimbal/gimballaw27.RateApart", spec := "rateApart", inPlace := ["slices.overlaps[gimbal/rate.entry[gimbal/rate.key, gimbal/rate.sub]]"], unfollowed := true, recurses := true, apart := false, narrowed := true }
def RateApartUptoSaid : Prop := rateApartUptoRow.holds Try.pinned (OpenSpec.upto rateApartSpec)

/-- 'gimballaw27.RateTables', WHERE WHAT IT READS IS OF BULK AT MOST 1048576: true; the input reads as it did. -/
def rateTablesUptoRow : OpenClaim := { program := "ytfdfnmlbmijdjaa", sum := "b9a19907e43e3095013cf32603487229572bf0de47207dddafa515c7778aedf4", func := "gimbal/gimballaw27.RateTables", spec := "rateTables", inPlace := ["slices.overlaps[gimbal/rate.entry[gimbal/rate.key, gimbal/rate.sub]]"], unfollowed := true, recurses := true, apart := false, narrowed := true }
def RateTablesUptoSaid : Prop := rateTablesUptoRow.holds Try.pinned (OpenSpec.upto rateTablesSpec)

/-- 'gimballaw27.RateExact', WHERE WHAT IT READS IS OF BULK AT MOST 1048576: true; the input reads as it did. -/
def rateExactUptoRow : OpenClaim := { program := "ytfdfnmlbmijdjaa", sum := "b9a19907e43e3095013cf32603487229572bf0de47207dddafa515c7778aedf4", func := "gimbal/gimballaw27.RateExact", spec := "rateExact", inPlace := ["slices.overlaps[gimbal/rate.entry[gimbal/rate.key, gimbal/rate.sub]]"], unfollowed := true, recurses := true, apart := false, narrowed := true }
def RateExactUptoSaid : Prop := rateExactUptoRow.holds Try.pinned (OpenSpec.upto rateExactSpec)

end Rows
end Go.Proofs.Ytfdfnmlbmijdjaa
