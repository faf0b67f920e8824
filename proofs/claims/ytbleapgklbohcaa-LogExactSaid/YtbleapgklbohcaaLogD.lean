/-
  What log.Scan tells of a page, in plain numbers.
  No conditions.
-/
import Derived.Test.YtbleapgklbohcaaLogC
import Derived.Test.YtbleapgklbohcaaCopy
namespace Go.Proofs.Ytbleapgklbohcaa.Lg
open Go.RowKit Go.Proofs.YtbleapgklbohcaaW.PrintWords Go.Proofs.YtbleapgklbohcaaW.PrintLast Go.Proofs.YtbleapgklbohcaaW.PrintMore
def keyOf (f : Int) : Int := Go.bits .and .u32 (f / 256) 65535
def nOf (f : Int) : Int := Go.bits .and .u32 f 255
def mOf (f : Int) : Int := (nOf f + 3) / 4 + 2
def isRec (f : Int) : Bool := decide (Go.bits .and .u32 f 4278190080 = 1375731712 ∧ keyOf f < 16 ∧ nOf f ≤ 24)
def recOf (l : List Int) (i : Int) : List Int := (l.take (i + mOf (rd l i)).toNat).drop i.toNat
def sumOk (R : List Int) (last : Int) : Bool := rd R last == (1124073472 + sumW (R.take last.toNat) (R.take last.toNat).length % 4294967296) % 4294967296
def rightAt (l : List Int) (i : Int) : Bool := sumOk (recOf l i) ((nOf (rd l i) + 3) / 4 + 1)
def entryAt (l : List Int) (i : Int) : Int × List Int := (keyOf (rd l i), vals (recOf l i) (nOf (rd l i)).toNat)
def scanF (l : List Int) : Nat → List (Int × List Int) → Int → List (Int × List Int) × Int
  | 0, es, i => (es, i)
  | k + 1, es, i => if i < 256 then (if rd l i = 4294967295 then (es, i) else (if isRec (rd l i) = true then (if i + mOf (rd l i) ≤ 256 then (if rightAt l i = true then scanF l k (es ++ [entryAt l i]) (i + mOf (rd l i)) else scanF l k es (i + mOf (rd l i))) else (es, 256)) else (es, 256))) else (es, i)
theorem bits32_ge (o : BinOp) (a b : Int) : 0 ≤ Go.bits o .u32 a b := by
  unfold Go.bits
  rw [IntKind.wrap_u32]; omega
theorem bits32_lt (o : BinOp) (a b : Int) : Go.bits o .u32 a b < 4294967296 := by
  unfold Go.bits
  rw [IntKind.wrap_u32]; omega
theorem bits32_w (o : BinOp) (a b : Int) : IntKind.i64.wrap (Go.bits o .u32 a b) = Go.bits o .u32 a b := by
  have h1 := bits32_ge o a b
  have h2 := bits32_lt o a b
  rw [i64_w]
  unfold wrap64
  omega
theorem isRec_iff {f : Int} (h : isRec f = true) : Go.bits .and .u32 f 4278190080 = 1375731712 ∧ keyOf f < 16 ∧ nOf f ≤ 24 := of_decide_eq_true h
theorem entry_at (g : Nat) (A : Option Addr) (c : Nat) (l : List Int) (i : Int) (w w0 wg : World) (hB0 : Below w0.heap.size w0 w) (hg : w0.heap.size ≤ g) (hwg : wg = w.setCell ⟨g, 1, none⟩ (.int .i64 (i + mOf (rd l i))))
    (hb : w.heap[g]? = some (.cells #[.slice A l.length c, .int .i64 i] 60 (0, 0))) (hr : Kd.C (Kd.int .u32) w0 A l.length l) (hc : l.length ≤ c) (h0 : 0 ≤ i) (h1 : i ≤ 256) (hrec : isRec (rd l i) = true) (hle : i + mOf (rd l i) ≤ (l.length : Int)) :
    Calls Try.prog 26 #[.pointer (some ⟨g, 0, none⟩), .int .u32 (rd l i)] w fun e w' => ∃ v, e = .returned (.tuple #[.agg #[.int .i64 (keyOf (rd l i)), v], .bool (rightAt l i), .bool true]) ∧ Kd.R (Kd.int .u8) 5 w' w.heap.size (fun _ => True) v (entryAt l i).2 ∧ Below w.heap.size wg w' :=
  entry_yes g A c l i (rd l i) (keyOf (rd l i)) (nOf (rd l i)) w w0 wg hB0 hg hwg hb hr hc h0 h1 (bits32_w _ _ _) (bits32_w _ _ _) (isRec_iff hrec) (bits32_ge _ _ _) hle (recOf l i) rfl
theorem entry_short_at (g : Nat) (A : Option Addr) (c : Nat) (l : List Int) (i : Int) (w : World) (hb : w.heap[g]? = some (.cells #[.slice A l.length c, .int .i64 i] 60 (0, 0))) (h0 : 0 ≤ i) (h1 : i ≤ 256) (hrec : isRec (rd l i) = true) (hlt : (l.length : Int) < i + mOf (rd l i)) :
    Calls Try.prog 26 #[.pointer (some ⟨g, 0, none⟩), .int .u32 (rd l i)] w fun e w' => e = .returned (.tuple #[.agg #[.int .i64 0, .slice none 0 0], .bool false, .bool false]) ∧ Below w.heap.size w w' :=
  entry_short g A c l i (rd l i) (keyOf (rd l i)) (nOf (rd l i)) w hb h0 h1 (bits32_w _ _ _) (bits32_w _ _ _) (isRec_iff hrec) (bits32_ge _ _ _) hlt
theorem mOf_le {f : Int} (h : isRec f = true) : 2 ≤ mOf f ∧ mOf f ≤ 8 := by
  have h1 := (isRec_iff h).2.2
  have h2 : 0 ≤ nOf f := bits32_ge _ _ _
  unfold mOf
  omega
end Go.Proofs.Ytbleapgklbohcaa.Lg
