/-
  Walks of package rate: a table's state; New, Clear, drop.
  No conditions.
-/
import Derived.Test.YtfdfnmlbmijdjaaRateC
import Derived.Test.YtfdfnmlbmijdjaaRateF
import Derived.Test.YtfdfnmlbmijdjaaRateG
namespace Go.Proofs.Ytfdfnmlbmijdjaa.Rt
open Go.RowKit Go.Lib Go.Proofs.YtfdfnmlbmijdjaaW.PrintWords Go.Proofs.YtfdfnmlbmijdjaaW.PrintLast Go.Proofs.YtfdfnmlbmijdjaaW.PrintMore
set_option linter.unusedVariables false
set_option linter.unusedSimpArgs false
/-- The table at g holds E, its row is its own. -/
def Tab (base : Nat) (w : World) (g : Nat) (v : Value) (E : List Ent) : Prop :=
  w.heap[g]? = some (.cells #[v, .func (.func 28) #[] #[]] 65 (0, 0)) ∧ w.ownsRow base 77 7 v E.length (flat E)
/-- Nothing but block g and the row has changed. -/
structure Moved (w w' : World) (g : Nat) (row : Option Nat) : Prop where
  os : w'.os = w.os
  tape : w'.tape = w.tape
  output : w'.output = w.output
  size : w.heap.size ≤ w'.heap.size
  block : ∀ k, k < w.heap.size → k ≠ g → some k ≠ row → w'.heap[k]? = w.heap[k]?
theorem Tab.rowAt {base : Nat} {w : World} {g : Nat} {A : Option Addr} {n c : Nat} {E : List Ent} (h : Tab base w g (.slice A n c) E) : n = E.length ∧ RowAt w A E := by
  obtain ⟨h1, h2⟩ := h
  rcases h2.2 with ⟨hv, h0⟩ | ⟨b, cap, cur, hv, hb, hh, hnc, hcm, hcs, ht⟩
  · injection hv with ha hn hc
    subst ha hn
    exact ⟨h0.symm, .inl ⟨rfl, List.eq_nil_of_length_eq_zero h0⟩⟩
  · injection hv with ha hn hc
    subst ha hn
    refine ⟨rfl, .inr ⟨b, rfl, blk_lt hh, fun j hj k u hu => ?_⟩⟩
    have h3 := h2.cells (g := b) rfl (j * 7 + k) u (flat_get E j hj k u hu)
    rwa [add_plain] at h3
theorem Tab.slice {base : Nat} {w : World} {g : Nat} {v : Value} {E : List Ent} (h : Tab base w g v E) : ∃ A c, v = .slice A E.length c := own_slice h.2
theorem Tab.ne {base : Nat} {w : World} {g : Nat} {v : Value} {E : List Ent} (h : Tab base w g v E) : some g ≠ v.ownBlock := by
  intro he
  rcases h.2.2 with ⟨rfl, h0⟩ | ⟨b, cap, cur, rfl, hb, hh, hnc, hcm, hcs, ht⟩
  · cases he
  · injection he with he
    have he' : g = b := he
    subst he'
    rw [h.1] at hh
    injection hh with hh
    injection hh with _ ht _
    exact absurd ht (by decide)
set_option maxHeartbeats 8000000 in
set_option maxRecDepth 100000 in
theorem clear_ (base g : Nat) (v : Value) (E : List Ent) (W : World) (h : Tab base W g v E) : Calls Try.prog 17 #[.pointer (some ⟨g, 0, none⟩)] W fun e w' => e = .returned (.tuple #[]) ∧ Tab base w' g (.slice none 0 0) [] ∧ Moved W w' g none := by
  have hg : g < W.heap.size := blk_lt h.1
  have hc := blk_cell h.1 0
  have hf : W.frozen? ⟨g, 0, none⟩ = false := by simp [World.frozen?, h.1]
  have hset : Tab base (W.setCell ⟨g, 0, none⟩ (.slice none 0 0)) g (.slice none 0 0) [] := by
    refine ⟨?_, World.ownsRow_nil _ _ _ _⟩
    have h1 := h.1
    simp [World.setCell, Array.getElem?_modify, h1]
  have hmv : Moved W (W.setCell ⟨g, 0, none⟩ (.slice none 0 0)) g none := ⟨rfl, rfl, rfl, by simp [World.setCell], fun k hk hkg _ => Below.heap_setCell _ _ _ _ hkg⟩
  have HS := Lib.hid hset
  have HM := Lib.hid hmv
  clear h hset hmv
  go_enter Try.func17, Try.ntmps17
  go_wp2
  go_end0
  exact ⟨rfl, HS.out, HM.out⟩
def rem (E : List Ent) (kc ks : Int) : List Ent := if isAt E kc ks then E.take (posOf E kc ks) ++ E.drop (posOf E kc ks + 1) else E
theorem isAt_lt {E : List Ent} {kc ks : Int} (h : isAt E kc ks = true) : posOf E kc ks < E.length := by
  unfold isAt at h
  simp only [Bool.and_eq_true, decide_eq_true_eq] at h
  exact h.1
theorem Tab.below {base : Nat} {w w' : World} {g : Nat} {v : Value} {E : List Ent} (h : Tab base w g v E) (hb : Below w.heap.size w w') : Tab base w' g v E :=
  ⟨(hb.block g (blk_lt h.1)).trans h.1, pw_own_below h.2 hb⟩
theorem Moved.of_below {w w' : World} {g : Nat} {row : Option Nat} (hb : Below w.heap.size w w') : Moved w w' g row := ⟨hb.os, hb.tape, hb.output, hb.size, fun k hk _ _ => hb.block k hk⟩
theorem Moved.trans_below {w w1 w2 : World} {g : Nat} {row : Option Nat} (hb : Below w.heap.size w w1) (h : Moved w1 w2 g row) : Moved w w2 g row :=
  ⟨h.os.trans hb.os, h.tape.trans hb.tape, h.output.trans hb.output, Nat.le_trans hb.size h.size, fun k hk hkg hkr => (h.block k (Nat.lt_of_lt_of_le hk hb.size) hkg hkr).trans (hb.block k hk)⟩
/-- A row moved, then the table's slice written. -/
theorem Tab.stored {base : Nat} {w w1 : World} {g : Nat} {v v1 : Value} {E E1 : List Ent} (h : Tab base w g v E) (hg : w.grownBy w1 v.ownBlock) (ho : w1.ownsRow base 77 7 v1 E1.length (flat E1)) : Tab base (w1.setCell ⟨g, 0, none⟩ v1) g v1 E1 ∧ Moved w (w1.setCell ⟨g, 0, none⟩ v1) g v.ownBlock ∧ w1.cell? ⟨g, 0, none⟩ = some v ∧ w1.frozen? ⟨g, 0, none⟩ = false := by
  have hgl : g < w.heap.size := blk_lt h.1
  have h1 : w1.heap[g]? = some (.cells #[v, .func (.func 28) #[] #[]] 65 (0, 0)) := (hg.block g hgl h.ne).trans h.1
  have hT1 : Tab base w1 g v1 E1 → True := fun _ => trivial
  have hne : some g ≠ v1.ownBlock := by
    intro he
    rcases ho.2 with ⟨rfl, h0⟩ | ⟨b, cap, cur, rfl, hb, hh, hnc, hcm, hcs, ht⟩
    · cases he
    · injection he with he
      have he' : g = b := he
      subst he'
      rw [h1] at hh
      injection hh with hh
      injection hh with _ ht _
      exact absurd ht (by decide)
  refine ⟨⟨?_, ?_⟩, ⟨hg.os, hg.tape, hg.output, ?_, fun k hk hkg hkr => (Below.heap_setCell _ _ _ _ hkg).trans (hg.block k hk hkr)⟩, (blk_cell h1 0).trans rfl, by simp [World.frozen?, h1]⟩
  · simp [World.setCell, Array.getElem?_modify, h1]
  · refine ho.kept (row := some g) ⟨rfl, rfl, rfl, by simp [World.setCell], fun k hk hkg => Below.heap_setCell _ _ _ _ (fun e => hkg (by rw [e]))⟩ ?_
    cases hv : v1.ownBlock with
    | none => exact .inl rfl
    | some b => exact .inr (fun e => hne (by rw [hv]; exact e.symm))
  · have := hg.size
    simp [World.setCell]
    exact this
set_option maxHeartbeats 8000000 in
set_option maxRecDepth 100000 in
theorem drop_ (base g : Nat) (v : Value) (E : List Ent) (kc ks : Int) (W : World) (h : Tab base W g v E) (hso : Sorted E) (hsz : E.length < 1099511627776) : Calls Try.prog 31 #[.pointer (some ⟨g, 0, none⟩), .agg #[.int .i64 kc, .int .i64 ks]] W fun e w' => e = .returned (.bool (isAt E kc ks)) ∧ ∃ v', Tab base w' g v' (rem E kc ks) ∧ Moved W w' g v.ownBlock := by
  obtain ⟨A, c, rfl⟩ := h.slice
  obtain ⟨_, hra⟩ := h.rowAt
  have hfind : ∀ (W' : World), Below W.heap.size W W' → Calls Try.prog 44 #[.pointer (some ⟨g, 0, none⟩), .agg #[.int .i64 kc, .int .i64 ks]] W' fun e w' => e = .returned (.tuple #[.int .i64 (posOf E kc ks : Nat), .bool (isAt E kc ks)]) ∧ Below W'.heap.size W' w' := fun W' hB => find_ E kc ks W' A c g (h.below hB).rowAt.2 hso (by omega) ((blk_cell (h.below hB).1 0).trans rfl) ((blk_cell (h.below hB).1 1).trans rfl)
  have hg : g < W.heap.size := blk_lt h.1
  cases ht : isAt E kc ks with
  | false =>
    rw [ht] at hfind
    have hre : rem E kc ks = E := by unfold rem; rw [ht]; rfl
    rw [hre]
    have HF := Lib.hid hfind
    have H := Lib.hid h
    generalize posOf E kc ks = p at *
    clear hfind h hra hre ht
    go_enter Try.func31, Try.ntmps31
    go_wp2_with (go_at_call 44; refine (HF.out _ (below_alloc (Below.refl _ _) _)).mono ?_; rintro e w2 ⟨rfl, hb2⟩)
    go_ret
    have hb3 : Below W.heap.size W w2 := below_step (below_alloc (Below.refl _ _) _) hb2
    exact ⟨rfl, _, H.out.below hb3, Moved.of_below hb3⟩
  | true =>
    have hlt := isAt_lt ht
    have hre : rem E kc ks = E.take (posOf E kc ks) ++ E.drop (posOf E kc ks + 1) := by unfold rem; rw [ht]; rfl
    have hrl : (rem E kc ks).length = E.length - 1 := by rw [hre, List.length_append, List.length_take, List.length_drop]; omega
    rw [ht] at hfind
    have hdel : ∀ (W' : World), Below W.heap.size W W' → Calls Try.prog 46 #[.slice A E.length c, .int .i64 (posOf E kc ks : Nat), .int .i64 ((posOf E kc ks : Nat) + 1)] W' fun e w' => ∃ v', e = .returned v' ∧ Tab base (w'.setCell ⟨g, 0, none⟩ v') g v' (rem E kc ks) ∧ Moved W' (w'.setCell ⟨g, 0, none⟩ v') g (Value.slice A E.length c).ownBlock ∧ w'.cell? ⟨g, 0, none⟩ = some (.slice A E.length c) ∧ w'.frozen? ⟨g, 0, none⟩ = false := fun W' hB =>
      (delete_ E (posOf E kc ks) (.slice A E.length c) W' base hlt (h.below hB).2).mono fun e w' ⟨v', he, ho, hgr⟩ => by
        rw [← hrl, ← hre] at ho
        exact ⟨v', he, Tab.stored (h.below hB) hgr ho⟩
    have hc0 : ∀ (W' : World), Below W.heap.size W W' → W'.cell? ⟨g, 0, none⟩ = some (.slice A E.length c) := fun W' hB => (blk_cell (h.below hB).1 0).trans rfl
    have HF := Lib.hid hfind
    have HD := Lib.hid hdel
    have HC := Lib.hid hc0
    obtain ⟨R, hR⟩ : ∃ R, R = rem E kc ks := ⟨_, rfl⟩
    rw [← hR] at HD ⊢
    have hp : ((posOf E kc ks : Nat) : Int) < 1099511627776 := by omega
    obtain ⟨n, hn⟩ : ∃ n, n = E.length := ⟨_, rfl⟩
    rw [← hn] at HD HC ⊢
    obtain ⟨p, hpp⟩ : ∃ p, p = posOf E kc ks := ⟨_, rfl⟩
    rw [← hpp] at HF HD hp
    have hw1 : IntKind.i64.wrap ((p : Int) + 1) = (p : Int) + 1 := by rw [IntKind.wrap_i64]; omega
    clear hfind hdel hc0 h hra hre ht hlt hrl hn hsz hso hpp hR
    go_enter Try.func31, Try.ntmps31
    go_wp2_with (first | (go_at_call 44; refine (HF.out _ (below_alloc (Below.refl _ _) _)).mono ?_; rintro e w2 ⟨rfl, hb2⟩; have hb3 : Below W.heap.size W w2 := below_step (below_alloc (Below.refl _ _) _) hb2; have hcc := HC.out _ hb3; have HB3 := Lib.hid hb3; clear hb2 hb3) | (go_at_call 46; refine (HD.out _ HB3.out).mono ?_; rintro e w3 ⟨v1, rfl, hT, hM, hk0, hk1⟩; obtain ⟨A1, c1, hv1⟩ := Tab.slice hT; subst hv1; have HT := Lib.hid hT; have HM := Lib.hid hM; clear hT hM))
    go_ret
    exact ⟨rfl, _, HT.out, Moved.trans_below HB3.out HM.out⟩
end Go.Proofs.Ytfdfnmlbmijdjaa.Rt
