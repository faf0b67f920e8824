/-
  Walks of package rate: the place of a key's thing that is there.
  No conditions.
-/
import Derived.Test.YtfdfnmlbmijdjaaRateJ
namespace Go.Proofs.Ytfdfnmlbmijdjaa.Rt
open Go.RowKit Go.Lib Go.Proofs.YtfdfnmlbmijdjaaW.PrintWords Go.Proofs.YtfdfnmlbmijdjaaW.PrintLast Go.Proofs.YtfdfnmlbmijdjaaW.PrintMore
set_option linter.unusedVariables false
set_option linter.unusedSimpArgs false
theorem Moved.refl (w : World) (g : Nat) (row : Option Nat) : Moved w w g row := ⟨rfl, rfl, rfl, Nat.le_refl _, fun _ _ _ _ => rfl⟩
set_option maxHeartbeats 8000000 in
set_option maxRecDepth 100000 in
theorem at_old (base g : Nat) (v : Value) (E : List Ent) (kc ks : Int) (W : World) (h : Tab base W g v E) (hso : Sorted E) (hsz : E.length < 1099511627776) (ht : isAt E kc ks = true) : Calls Try.prog 30 #[.pointer (some ⟨g, 0, none⟩), .agg #[.int .i64 kc, .int .i64 ks]] W fun e w' => ∃ b c, e = .returned (.pointer (some ⟨b, posOf E kc ks * 7 + 2, none⟩)) ∧ Tab base w' g (.slice (some ⟨b, 0, none⟩) (ins E kc ks).length c) (ins E kc ks) ∧ Moved W w' g v.ownBlock := by
  obtain ⟨A, c, rfl⟩ := h.slice
  have hfind : ∀ (W' : World), Below W.heap.size W W' → Calls Try.prog 44 #[.pointer (some ⟨g, 0, none⟩), .agg #[.int .i64 kc, .int .i64 ks]] W' fun e w' => e = .returned (.tuple #[.int .i64 (posOf E kc ks : Nat), .bool (isAt E kc ks)]) ∧ Below W'.heap.size W' w' := fun W' hB => find_ E kc ks W' A c g (h.below hB).rowAt.2 hso (by omega) ((blk_cell (h.below hB).1 0).trans rfl) ((blk_cell (h.below hB).1 1).trans rfl)
  have hg : g < W.heap.size := blk_lt h.1
  have hlt := isAt_lt ht
  rw [ht] at hfind
  have hre : ins E kc ks = E := by unfold ins; rw [ht]; rfl
  rw [hre]
  obtain ⟨b, rfl, hbc, _⟩ := h.block (by omega)
  have hfin : ∀ (W' : World), Below W.heap.size W W' → Tab base W' g (.slice (some ⟨b, 0, none⟩) E.length c) E ∧ Moved W W' g (Value.slice (some ⟨b, 0, none⟩) E.length c).ownBlock := fun W' hB => ⟨h.below hB, Moved.of_below hB⟩
  have hc0 : ∀ (W' : World), Below W.heap.size W W' → W'.cell? ⟨g, 0, none⟩ = some (.slice (some ⟨b, 0, none⟩) E.length c) := fun W' hB => (blk_cell (h.below hB).1 0).trans rfl
  have HF := Lib.hid hfind
  have HN := Lib.hid hfin
  have HC := Lib.hid hc0
  obtain ⟨n, hn⟩ : ∃ n, n = E.length := ⟨_, rfl⟩
  rw [← hn] at HC HN hlt hsz ⊢
  obtain ⟨p, hpp⟩ : ∃ p, p = posOf E kc ks := ⟨_, rfl⟩
  rw [← hpp] at HF hlt ⊢
  clear hfind hfin hc0 h hre ht hn hso hpp hbc
  have hin : (p : Int) < (n : Int) := by omega
  go_enter Try.func30, Try.ntmps30
  go_wp2_with (go_at_call 44; refine (HF.out _ (below_alloc (Below.refl _ _) _)).mono ?_; rintro e w2 ⟨rfl, hb2⟩; have hb3 : Below W.heap.size W w2 := below_step (below_alloc (Below.refl _ _) _) hb2; have hcc := HC.out _ hb3; have HB3 := Lib.hid (HN.out _ hb3); clear hb2 hb3)
  go_ret
  exact ⟨b, c, rfl, HB3.out.1, HB3.out.2⟩
theorem at_ (base g : Nat) (v : Value) (E : List Ent) (kc ks : Int) (W : World) (h : Tab base W g v E) (hbase : base ≤ W.heap.size) (hso : Sorted E) (hsz : E.length < 1099511627776) : Calls Try.prog 30 #[.pointer (some ⟨g, 0, none⟩), .agg #[.int .i64 kc, .int .i64 ks]] W fun e w' => ∃ b c, e = .returned (.pointer (some ⟨b, posOf E kc ks * 7 + 2, none⟩)) ∧ Tab base w' g (.slice (some ⟨b, 0, none⟩) (ins E kc ks).length c) (ins E kc ks) ∧ Moved W w' g v.ownBlock := by
  cases ht : isAt E kc ks with
  | true => exact at_old base g v E kc ks W h hso hsz ht
  | false => exact at_new base g v E kc ks W h hbase hso hsz ht
end Go.Proofs.Ytfdfnmlbmijdjaa.Rt
