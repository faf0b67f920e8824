/-
  Package ring at api.Raw: frames; Clear.
  No conditions.
-/
import Derived.Test.YtpolofolibabiaaBusB
namespace Go.Proofs.Ytpolofolibabiaa.Bs
open Go Go.RowKit Go.Lib Go.Proofs.YtpolofolibabiaaW.PrintWords Go.Proofs.YtpolofolibabiaaW.PrintLast Go.Proofs.YtpolofolibabiaaW.PrintMore
set_option linter.unusedVariables false
set_option linter.unusedSimpArgs false
theorem RFr.refl (w : World) (g b c : Nat) : RFr w w g b c := ⟨rfl, rfl, rfl, Nat.le_refl _, fun _ _ _ _ _ => rfl⟩
theorem RFr.trans {w w1 w2 : World} {g b c : Nat} (h : RFr w w1 g b c) (k : RFr w1 w2 g b c) : RFr w w2 g b c :=
  ⟨k.os.trans h.os, k.tape.trans h.tape, k.output.trans h.output, Nat.le_trans h.size k.size, fun i hi hg hb hc => (k.block i (Nat.lt_of_lt_of_le hi h.size) hg hb hc).trans (h.block i hi hg hb hc)⟩
theorem RFr.of_below {w w1 : World} {g b c : Nat} (h : Below w.heap.size w w1) : RFr w w1 g b c := ⟨h.os, h.tape, h.output, h.size, fun i hi _ _ _ => h.block i hi⟩
theorem RFr.step {w w1 w2 : World} {g b c : Nat} (h : RFr w w1 g b c) (k : Below w1.heap.size w1 w2) : RFr w w2 g b c := h.trans (RFr.of_below k)
theorem RFr.belowB {B : Nat} {w0 w w' : World} {g b c : Nat} (h : RFr w w' g b c) (hB : Below B w0 w) (hg : B ≤ g) (hb : B ≤ b) (hc : B ≤ c) (hs : B ≤ w.heap.size) : Below B w0 w' :=
  ⟨h.os.trans hB.os, h.tape.trans hB.tape, h.output.trans hB.output, Nat.le_trans hB.size h.size, fun k hk => (h.block k (by omega) (by omega) (by omega) (by omega)).trans (hB.block k hk)⟩
end Go.Proofs.Ytpolofolibabiaa.Bs
