/-
  Package ring at api.Raw: a ring as a queue; Clear.
  No conditions.
-/
import Derived.Test.YtpolofolibabiaaBusC
import Derived.Test.YtpolofolibabiaaCut
namespace Go.Proofs.Ytpolofolibabiaa.Bs
open Go Go.RowKit Go.Lib Go.Proofs.YtpolofolibabiaaW.PrintWords Go.Proofs.YtpolofolibabiaaW.PrintLast Go.Proofs.YtpolofolibabiaaW.PrintMore
set_option linter.unusedVariables false
set_option linter.unusedSimpArgs false
/-- All blocks that were there stay as they were, but those of S. -/
structure Fr (S : Nat → Prop) (w w' : World) : Prop where
  os : w'.os = w.os
  tape : w'.tape = w.tape
  output : w'.output = w.output
  size : w.heap.size ≤ w'.heap.size
  block : ∀ k, k < w.heap.size → ¬ S k → w'.heap[k]? = w.heap[k]?
theorem Fr.refl (S : Nat → Prop) (w : World) : Fr S w w := ⟨rfl, rfl, rfl, Nat.le_refl _, fun _ _ _ => rfl⟩
theorem Fr.trans {S : Nat → Prop} {w w1 w2 : World} (h : Fr S w w1) (k : Fr S w1 w2) : Fr S w w2 :=
  ⟨k.os.trans h.os, k.tape.trans h.tape, k.output.trans h.output, Nat.le_trans h.size k.size, fun i hi hs => (k.block i (Nat.lt_of_lt_of_le hi h.size) hs).trans (h.block i hi hs)⟩
theorem Fr.mono {S T : Nat → Prop} {w w1 : World} (h : Fr S w w1) (hs : ∀ k, S k → T k) : Fr T w w1 := ⟨h.os, h.tape, h.output, h.size, fun k hk hn => h.block k hk (fun hk' => hn (hs k hk'))⟩
theorem Fr.of_below {S : Nat → Prop} {w w1 : World} (h : Below w.heap.size w w1) : Fr S w w1 := ⟨h.os, h.tape, h.output, h.size, fun i hi _ => h.block i hi⟩
theorem Fr.of_drawn {S : Nat → Prop} {w w1 : World} (h : Drawn0 w w1) : Fr S w w1 := by obtain ⟨n, rfl⟩ := h; exact ⟨rfl, rfl, rfl, Nat.le_refl _, fun _ _ _ => rfl⟩
theorem Fr.drewN {S : Nat → Prop} {w w1 : World} (h : Fr S w w1) (n : Nat) : Fr S w (w1.drewN n) := ⟨h.os, h.tape, h.output, h.size, h.block⟩
theorem Fr.step {S : Nat → Prop} {w w1 w2 : World} (h : Fr S w w1) (k : Below w1.heap.size w1 w2) : Fr S w w2 := h.trans (Fr.of_below k)
theorem Fr.alloc {S : Nat → Prop} {w w1 : World} (h : Fr S w w1) (o : Obj) : Fr S w (w1.alloc o) := h.step (below_alloc (Below.refl _ _) _)
theorem Fr.put {S : Nat → Prop} {w w1 : World} (h : Fr S w w1) (p : Addr) (v : Value) (hp : S p.block) : Fr S w (w1.setCell p v) :=
  ⟨h.os, h.tape, h.output, by rw [show (w1.setCell p v).heap.size = w1.heap.size by simp [World.setCell]]; exact h.size, fun k hk hn => (Below.heap_setCell _ _ _ _ (fun e => hn (by rw [e]; exact hp))).trans (h.block k hk hn)⟩
/-- .. or one that was not there. -/
theorem Fr.putN {S : Nat → Prop} {w w1 : World} (h : Fr S w w1) (p : Addr) (v : Value) (hp : w.heap.size ≤ p.block) : Fr S w (w1.setCell p v) :=
  ⟨h.os, h.tape, h.output, by rw [show (w1.setCell p v).heap.size = w1.heap.size by simp [World.setCell]]; exact h.size, fun k hk hn => (Below.heap_setCell _ _ _ _ (fun e => by omega)).trans (h.block k hk hn)⟩
theorem Fr.belowB {S : Nat → Prop} {B : Nat} {w0 w w' : World} (h : Fr S w w') (hB : Below B w0 w) (hs : ∀ k, S k → B ≤ k) (hz : B ≤ w.heap.size) : Below B w0 w' :=
  ⟨h.os.trans hB.os, h.tape.trans hB.tape, h.output.trans hB.output, Nat.le_trans hB.size h.size, fun k hk => (h.block k (by omega) (fun hk' => by have := hs k hk'; omega)).trans (hB.block k hk)⟩
theorem Fr.blk {S : Nat → Prop} {w w' : World} (h : Fr S w w') {k : Nat} {o : Obj} (hk : w.heap[k]? = some o) (hn : ¬ S k) : w'.heap[k]? = some o := (h.block k (Array.getElem?_eq_some_iff.1 hk).1 hn).trans hk
def RS (g b c : Nat) : Nat → Prop := fun k => k = g ∨ k = b ∨ k = c
theorem RFr.fr {w w' : World} {g b c : Nat} (h : RFr w w' g b c) : Fr (RS g b c) w w' := ⟨h.os, h.tape, h.output, h.size, fun k hk hn => h.block k hk (fun e => hn (.inl e)) (fun e => hn (.inr (.inl e))) (fun e => hn (.inr (.inr e)))⟩
def Rw.no : Rw := ⟨0, 0, 0, 0⟩
/-- A ring as a queue. -/
def RingQ (w : World) (g b c : Nat) (q : List Rw) : Prop := ∃ L fr, RingP w g b c L fr q.length ∧ ∀ i, i < q.length → L[(fr + i) % 16]! = q[i]!
theorem RingQ.drewN {w : World} {g b c : Nat} {q : List Rw} (h : RingQ w g b c q) (m : Nat) : RingQ (w.drewN m) g b c q := by obtain ⟨L, fr, h, k⟩ := h; exact ⟨L, fr, h.drewN m, k⟩
theorem RingQ.drawn {w w1 : World} {g b c : Nat} {q : List Rw} (h : RingQ w g b c q) (hd : Drawn0 w w1) : RingQ w1 g b c q := by obtain ⟨m, rfl⟩ := hd; exact h.drewN m
theorem RingQ.below {w w1 : World} {g b c : Nat} {q : List Rw} (h : RingQ w g b c q) (hb : Below w.heap.size w w1) : RingQ w1 g b c q := by obtain ⟨L, fr, h, k⟩ := h; exact ⟨L, fr, h.below hb, k⟩
theorem RingQ.same {w w1 : World} {g b c : Nat} {q : List Rw} (h : RingQ w g b c q) (hg : w1.heap[g]? = w.heap[g]?) (hb : w1.heap[b]? = w.heap[b]?) (hc : w1.heap[c]? = w.heap[c]?) : RingQ w1 g b c q := by obtain ⟨L, fr, h, k⟩ := h; exact ⟨L, fr, h.same hg hb hc, k⟩
theorem RingQ.old {w : World} {g b c : Nat} {q : List Rw} (h : RingQ w g b c q) : g < w.heap.size ∧ b < w.heap.size ∧ c < w.heap.size := by obtain ⟨L, fr, h, k⟩ := h; exact h.old
theorem RingQ.fr {S : Nat → Prop} {w w1 : World} {g b c : Nat} {q : List Rw} (h : RingQ w g b c q) (hf : Fr S w w1) (hg : ¬ S g) (hb : ¬ S b) (hc : ¬ S c) : RingQ w1 g b c q := h.same (hf.block g h.old.1 hg) (hf.block b h.old.2.1 hb) (hf.block c h.old.2.2 hc)
theorem RingQ.le {w : World} {g b c : Nat} {q : List Rw} (h : RingQ w g b c q) : q.length ≤ 16 := by obtain ⟨L, fr, h, k⟩ := h; exact h.le
theorem RingQ.no_box {w : World} {g b c k : Nat} {q : List Rw} {cs : Array Value} (h : RingQ w g b c q) (hk : w.heap[k]? = some (.cells cs 60 (0, 0))) (hs : cs.size = 4) : k ≠ g ∧ k ≠ b ∧ k ≠ c := by
  obtain ⟨L, fr, h, _⟩ := h
  obtain ⟨buf, s, r, hc, hn⟩ := h.chan
  refine ⟨?_, ?_, ?_⟩ <;> rintro rfl
  · have := hk.symm.trans h.head
    simp at this
  · have h1 := hk.symm.trans h.row
    simp only [Option.some.injEq, Obj.cells.injEq] at h1
    have h2 := congrArg Array.size h1.1
    rw [hs] at h2
    simp [flat_len, h.len] at h2
  · have := hk.symm.trans hc
    simp at this
theorem lenQ (w : World) (g b c : Nat) (q : List Rw) (h : RingQ w g b c q) : Calls Try.prog 35 #[.pointer (some ⟨g, 0, none⟩)] w fun e w' => e = .returned (.int .i64 (q.length : Int)) ∧ Drawn0 w w' := by
  obtain ⟨L, fr, h, _⟩ := h
  exact len_ w g b c fr q.length L h
theorem popQ (w : World) (g b c : Nat) (q : List Rw) (h : RingQ w g b c q) : Calls Try.prog 54 #[.pointer (some ⟨g, 0, none⟩)] w fun e w' => e = .returned (.tuple #[encV (q.headD Rw.no), .bool (!q.isEmpty)]) ∧ RingQ w' g b c q.tail ∧ Fr (RS g b c) w w' := by
  obtain ⟨L, fr, h, k⟩ := h
  cases q with
  | nil => exact (pop0_ w g b c fr L h).mono fun e w' ⟨he, hb⟩ => ⟨he, ⟨L, fr, h.below hb, k⟩, Fr.of_below hb⟩
  | cons x q =>
    have hl : (x :: q).length = q.length + 1 := rfl
    refine (popS_ w g b c fr q.length L (by rw [hl] at h; exact h)).mono fun e w' ⟨he, hr, hf⟩ => ⟨?_, ⟨_, _, hr, ?_⟩, hf.fr⟩
    · rw [he]
      have h0 := k 0 (by rw [hl]; omega)
      rw [Nat.add_zero, Nat.mod_eq_of_lt h.lt] at h0
      rw [h0]
      rfl
    · intro i hi
      have h1 := k (i + 1) (by rw [hl]; exact Nat.succ_lt_succ hi)
      have hle : q.length + 1 ≤ 16 := by have := h.le; rw [hl] at this; exact this
      have hi' : i < q.length := hi
      have h2 : ((fr + 1) % 16 + i) % 16 = (fr + (i + 1)) % 16 := by omega
      rw [h2]
      have h3 : (fr + (i + 1)) % 16 ≠ fr := by have := h.lt; omega
      have hlt : (fr + (i + 1)) % 16 < L.length := by rw [h.len]; omega
      rw [getElem!_pos _ _ (by rw [List.length_set]; exact hlt), List.getElem_set_ne (Ne.symm h3)]
      rw [getElem!_pos L _ hlt] at h1
      rw [h1]
      rfl
theorem box_new (w : World) (o : Obj) : (w.alloc o).heap[w.heap.size]? = some o := blk_new w o
end Go.Proofs.Ytpolofolibabiaa.Bs
