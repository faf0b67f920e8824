/-
  Plain laws: a kind whose reading leans on the heap alone, so that what came in may be shared: it is read in every world that has the blocks that stood at the call.
  No conditions.
-/
import Derived.Test.YtbleapgklbohcaaWMore
namespace Go.Proofs.Ytbleapgklbohcaa.Ho
open Go.RowKit Go.Proofs.YtbleapgklbohcaaW.PrintWords Go.Proofs.YtbleapgklbohcaaW.PrintMore
variable {α β : Type}
def Ho (d : Kd α) : Prop := ∀ {w w' : World} {x : α} {cs : List Value}, (∀ k, k < w.heap.size → w'.heap[k]? = w.heap[k]?) → d.K w x cs → d.K w' x cs
theorem cell_heap {w w' : World} {a : Addr} {u : Value} (h : ∀ k, k < w.heap.size → w'.heap[k]? = w.heap[k]?) (hc : w.cell? a = some u) : w'.cell? a = some u := by
  have hl : a.block < w.heap.size := by
    by_cases hl : a.block < w.heap.size
    · exact hl
    · rw [World.cell?, Array.getElem?_eq_none (by omega)] at hc
      simp at hc
  unfold World.cell? at hc ⊢
  rw [h _ hl]
  exact hc
theorem Ho.int (k : IntKind) : Ho (Kd.int k) := fun _ h => h
theorem Ho.bool : Ho Kd.bool := fun _ h => h
theorem Ho.string : Ho Kd.string := fun _ h => h
theorem Ho.row {d : Kd α} (hd : Ho d) {w w' : World} {A : Option Addr} {n : Nat} {xs : List α} (hw : ∀ k, k < w.heap.size → w'.heap[k]? = w.heap[k]?) (h : d.C w A n xs) : d.C w' A n xs := by
  refine ⟨h.1, h.2.1, fun hp => ?_⟩
  obtain ⟨ad, e, hc⟩ := h.2.2 hp
  refine ⟨ad, e, fun j p hj => ?_⟩
  obtain ⟨c, hl, hK, hcc⟩ := hc j p hj
  exact ⟨c, hl, hd hw hK, fun i u hu => cell_heap hw (hcc i u hu)⟩
theorem Ho.slice (e : Nat) {d : Kd α} (hd : Ho d) : Ho (Kd.slice e d) := by
  rintro w w' x cs hw ⟨A, c, rfl, hl, hC⟩
  exact ⟨A, c, rfl, hl, Ho.row hd hw hC⟩
theorem Ho.pair {a : Kd α} {b : Kd β} (ha : Ho a) (hb : Ho b) : Ho (Kd.pair a b) := by
  rintro w w' x cs hw ⟨c0, c1, rfl, h0, h1⟩
  exact ⟨c0, c1, rfl, ha hw h0, hb hw h1⟩
theorem Ho.iso {d : Kd α} (f : β → α) (hd : Ho d) : Ho (Kd.iso d f) := fun hw h => hd hw h
/-- What came in, shared. -/
theorem share {d : Kd α} (hd : Ho d) {w : World} {e : Nat} {A : Option Addr} {c : Nat} {xs : List α} (h : d.C w A xs.length xs) (hc : xs.length ≤ c) : Kd.V d e w w.heap.size (fun _ => True) (.slice A xs.length c) xs :=
  ⟨A, c, rfl, hc, fun _ hW => Ho.row hd (fun k hk => hW k trivial hk) h⟩
/-- An element that came in (read in w0), or one that is made. -/
def km (d : Kd α) (w0 : World) : Kd α := Kd.or_ (Kd.fixed d w0) d rfl
theorem kmE {d : Kd α} {w0 : World} {e e' : Nat} (h : ∀ q, q ∈ e :: d.E → q ≠ e') : ∀ q, q ∈ e :: (km d w0).E → q ≠ e' := h
theorem km_read {d : Kd α} {w0 w : World} (hb : Below w0.heap.size w0 w) {A : Option Addr} {n : Nat} {xs : List α} (h : (km d w0).C w A n xs) : d.C w A n xs :=
  Kd.C_read (d := d) (dm := km d w0) rfl (fun _ _ hk => hk.elim (fun hk => d.K_below hb hk) id) h
end Go.Proofs.Ytbleapgklbohcaa.Ho
