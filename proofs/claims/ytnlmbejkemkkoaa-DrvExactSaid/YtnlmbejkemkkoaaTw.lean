/-
  A plain law: of two stores into one cell, one behind the other, the last one stands.
  No conditions.
-/
import Derived.Calls
namespace Go.Proofs.Ytnlmbejkemkkoaa.Tw
open Go
/-- Two stores into one cell, one behind the other: the last one stands. -/
theorem setCell_twice (w : World) (p : Addr) (a b : Value) : (w.setCell p a).setCell p b = w.setCell p b := by
  unfold World.setCell
  simp only
  congr 1
  apply Array.ext
  · simp
  · intro i h1 h2
    simp only [Array.getElem_modify]
    split
    · next e =>
      subst e
      cases w.heap[p.block]'(by simpa using h1) <;> simp only [] <;> (by_cases hs : p.spot.isSome = true <;> simp [hs])
    · rfl
end Go.Proofs.Ytnlmbejkemkkoaa.Tw
