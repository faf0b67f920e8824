/-
  Walks of package rate: where a key stands in a table.
  No conditions.
-/
import Derived.Test.YtfdfnmlbmijdjaaRateB
namespace Go.Proofs.Ytfdfnmlbmijdjaa.Rt
open Go.RowKit Go.Lib Go.Proofs.YtfdfnmlbmijdjaaW.PrintWords Go.Proofs.YtfdfnmlbmijdjaaW.PrintLast Go.Proofs.YtfdfnmlbmijdjaaW.PrintMore
set_option linter.unusedVariables false
set_option linter.unusedSimpArgs false
set_option maxHeartbeats 8000000 in
set_option maxRecDepth 100000 in
theorem search_none (k0 k1 : Int) (f : Value) (c : Nat) (W : World) : Calls Try.prog 51 #[.slice none 0 c, .agg #[.int .i64 k0, .int .i64 k1], f] W fun e w' => e = .returned (.tuple #[.int .i64 0, .bool false]) ∧ Below W.heap.size W w' := by
  go_enter Try.func51, Try.ntmps51
  go_upto_block 0 with fail
  go_cut [9] (fun v9 wr => v9 = .int .i64 0 ∧ RowKit.Hid (Below W.heap.size W wr))
  case first =>
    go_upto_region 8 with fail
    refine wp_loop_rounds 1 ?_
    rw [rounds_succ]
    go_upto_region 8 with fail
    go_meet
    exact ⟨rfl, (Below.refl _ _).alloc (Nat.le_refl _) _⟩
  case rest =>
    obtain ⟨hv9, S1⟩ := hcut
    subst hv9
    go_upto_region 8 with fail
    go_quiet (fail)
    go_wp2
    go_ret2
    refine ⟨?_, pw_below_drewN S1.out nq⟩
    simp
theorem ord_neg (a b c d : Int) : ord a b c d < 0 ↔ a < c ∨ (a = c ∧ b < d) := by
  unfold ord orI cmpI
  (repeat' split) <;> constructor <;> intro h <;> first | omega | (exfalso; omega)
theorem ord_zero (a b c d : Int) : ord a b c d = 0 ↔ a = c ∧ b = d := by
  unfold ord orI cmpI
  (repeat' split) <;> constructor <;> intro h <;> first | omega | (exfalso; omega)
theorem sorted_mono {E : List Ent} (h : Sorted E) (kc ks : Int) : ∀ i j, i ≤ j → j < E.length → ord E[j]!.c E[j]!.s kc ks < 0 → ord E[i]!.c E[i]!.s kc ks < 0 := by
  intro i j hij hj hlt
  rcases Nat.lt_or_ge i j with h1 | h1
  · have := h i j h1 hj
    rw [ord_neg] at *
    omega
  · obtain rfl : i = j := by omega
    exact hlt
def RowAt (w : World) (A : Option Addr) (E : List Ent) : Prop := (A = none ∧ E = []) ∨ ∃ b, A = some ⟨b, 0, none⟩ ∧ b < w.heap.size ∧ Hold w b E
theorem Hold.below {w w' : World} {b : Nat} {E : List Ent} (h : Hold w b E) (hb : Below w.heap.size w w') (hlt : b < w.heap.size) : Hold w' b E := fun j hj k u hu => (hb.cell (by exact hlt)).trans (h j hj k u hu)
set_option maxHeartbeats 8000000 in
set_option maxRecDepth 100000 in
theorem searchAny (E : List Ent) (kc ks : Int) (W : World) (A : Option Addr) (c bx g : Nat) (hr : RowAt W A E) (hso : Sorted E) (hsz : E.length < 4611686018427387904) (hx : W.cell? ⟨bx, 0, none⟩ = some (.pointer (some ⟨g, 0, none⟩))) (hg : W.cell? ⟨g, 1, none⟩ = some (.func (.func 28) #[] #[])) : Calls Try.prog 51 #[.slice A E.length c, .agg #[.int .i64 kc, .int .i64 ks], .func (.func 52) #[] #[.pointer (some ⟨bx, 0, none⟩)]] W fun e w' => e = .returned (.tuple #[.int .i64 (posOf E kc ks : Nat), .bool (isAt E kc ks)]) ∧ Below W.heap.size W w' := by
  rcases hr with ⟨rfl, rfl⟩ | ⟨b, rfl, hb, hh⟩
  · exact search_none kc ks _ c W
  · exact search_ E kc ks W b c bx g hh hb (sorted_mono hso kc ks) hsz hx hg
theorem keep4 {w w2 : World} {a1 a2 a3 a4 : Addr} {v1 v2 v3 v4 : Value} {p : Prop} (h : w.cell? a1 = some v1 ∧ w.cell? a2 = some v2 ∧ w.cell? a3 = some v3 ∧ w.cell? a4 = some v4 ∧ p) (hb : Below w.heap.size w w2) : w2.cell? a1 = some v1 ∧ w2.cell? a2 = some v2 ∧ w2.cell? a3 = some v3 ∧ w2.cell? a4 = some v4 ∧ p :=
  ⟨pw_cell_below hb h.1, pw_cell_below hb h.2.1, pw_cell_below hb h.2.2.1, pw_cell_below hb h.2.2.2.1, h.2.2.2.2⟩
set_option maxHeartbeats 8000000 in
set_option maxRecDepth 100000 in
theorem find_ (E : List Ent) (kc ks : Int) (W : World) (A : Option Addr) (c g : Nat) (hr : RowAt W A E) (hso : Sorted E) (hsz : E.length < 4611686018427387904) (hs : W.cell? ⟨g, 0, none⟩ = some (.slice A E.length c)) (hf : W.cell? ⟨g, 1, none⟩ = some (.func (.func 28) #[] #[])) : Calls Try.prog 44 #[.pointer (some ⟨g, 0, none⟩), .agg #[.int .i64 kc, .int .i64 ks]] W fun e w' => e = .returned (.tuple #[.int .i64 (posOf E kc ks : Nat), .bool (isAt E kc ks)]) ∧ Below W.heap.size W w' := by
  have hgl := World.block_lt_of_cell? W _ hf
  obtain ⟨n, hn⟩ : ∃ n : Nat, n = posOf E kc ks := ⟨_, rfl⟩
  obtain ⟨t, ht⟩ : ∃ t : Bool, t = isAt E kc ks := ⟨_, rfl⟩
  obtain ⟨m, hm⟩ : ∃ m : Nat, m = E.length := ⟨_, rfl⟩
  have hcall : ∀ (W' : World), Below W.heap.size W W' → W'.cell? ⟨W.heap.size, 0, none⟩ = some (.pointer (some ⟨g, 0, none⟩)) → Calls Try.prog 51 #[.slice A m c, .agg #[.int .i64 kc, .int .i64 ks], .func (.func 52) #[] #[.pointer (some ⟨W.heap.size, 0, none⟩)]] W' fun e w' => e = .returned (.tuple #[.int .i64 (n : Int), .bool t]) ∧ Below W'.heap.size W' w' := by
    intro W' hB hx
    rw [hn, ht, hm]
    refine searchAny E kc ks W' A c W.heap.size g ?_ hso hsz hx ((hB.cell hgl).trans hf)
    rcases hr with ⟨h1, h2⟩ | ⟨b, h1, h2, h3⟩
    · exact .inl ⟨h1, h2⟩
    · exact .inr ⟨b, h1, Nat.lt_of_lt_of_le h2 hB.size, h3.below hB h2⟩
  rw [← hn, ← ht]
  rw [← hm] at hs
  have HC := Lib.hid hcall
  clear hcall hn ht hm hr hso hsz
  go_enter Try.func44, Try.ntmps44
  go_upto_region 1 with fail
  go_region_held3 (fun w' : World => w'.cell? ⟨W.heap.size, 0, none⟩ = some (.pointer (some ⟨g, 0, none⟩)) ∧ w'.cell? ⟨W.heap.size + 1, 0, none⟩ = some (.int .i64 kc) ∧ w'.cell? ⟨W.heap.size + 1, 1, none⟩ = some (.int .i64 ks) ∧ w'.cell? ⟨g, 0, none⟩ = some (.slice A m c) ∧ g < W.heap.size) (first | with_reducible assumption | exact keep4 (by assumption) (by assumption) | (simp [*, World.cell?_alloc_lt, World.cell?_alloc_some]; done)) (first | (go_at_call 51; refine (HC.out _ (below_drew (below_alloc (below_alloc (Below.refl _ _) _) _)) (by assumption : _ ∧ _).1).mono ?_; rintro e w2 ⟨rfl, hb2⟩))
  go_wp2
  go_ret2
  exact ⟨rfl, below_step (below_drew (below_alloc (below_alloc (Below.refl _ _) _) _)) hb2⟩
end Go.Proofs.Ytfdfnmlbmijdjaa.Rt
