/-
  Walks of package rate: its order, and where a key stands.
  No conditions.
-/
import Derived.Test.YtfdfnmlbmijdjaaProg
import Derived.Tactics
import Derived.WalkKit
import Derived.KernelRfl
import Derived.Deep.LoopGhost
import Derived.Deep.RegionLaw
import Derived.Shelf.Abstract
import Derived.Test.YtfdfnmlbmijdjaaWWords
import Derived.Test.YtfdfnmlbmijdjaaWLast
import Derived.Test.YtfdfnmlbmijdjaaWMore
namespace Go.Proofs.Ytfdfnmlbmijdjaa.Rt
open Go.RowKit Go.Lib Go.Proofs.YtfdfnmlbmijdjaaW.PrintWords Go.Proofs.YtfdfnmlbmijdjaaW.PrintLast Go.Proofs.YtfdfnmlbmijdjaaW.PrintMore
set_option linter.unusedVariables false
set_option linter.unusedSimpArgs false
structure Ent where
  (c s a b p q d : Int)
  deriving Inhabited, DecidableEq
def enc (x : Ent) : List Value := [.int .i64 x.c, .int .i64 x.s, .int .i64 x.a, .int .i64 x.b, .int .i64 x.p, .int .i64 x.q, .int .i64 x.d]
def encV (x : Ent) : Value := .agg (enc x).toArray
theorem info77 : (Try.prog.info? 77).map (fun i => (i.zero, i.size, i.bytes)) = some (some (encV ⟨0, 0, 0, 0, 0, 0, 0⟩), 7, 56) := by kernel_rfl
def cmpI (x y : Int) : Int := if x < y then -1 else if y < x then 1 else 0
def orI (x y : Int) : Int := if x ≠ 0 then x else y
def ord (a b c d : Int) : Int := orI (cmpI a c) (cmpI b d)
set_option maxHeartbeats 4000000 in
theorem compare_ (x y : Int) (W : World) : Calls Try.prog 42 #[.int .i64 x, .int .i64 y] W fun e w' => e = .returned (.int .i64 (cmpI x y)) ∧ w' = W := by
  go_enter Try.func42, Try.ntmps42
  go_wp2
  all_goals (go_ret; refine ⟨?_, rfl⟩)
  all_goals (unfold cmpI; (repeat' split) <;> first | rfl | (exfalso; omega) | (exfalso; simp_all; done))
set_option maxHeartbeats 4000000 in
theorem or_ (x y : Int) (W : World) (b : Nat) (c : Nat) (hx : W.cell? ⟨b, 0, none⟩ = some (.int .i64 x)) (hy : W.cell? ⟨b, 1, none⟩ = some (.int .i64 y)) : Calls Try.prog 41 #[.slice (some ⟨b, 0, none⟩) 2 c] W fun e w' => e = .returned (.int .i64 (orI x y)) ∧ w' = W := by
  go_enter Try.func41, Try.ntmps41
  go_wp2
  refine wp_loop_rounds 3 ?_
  rw [rounds_succ]
  go_wp2
  any_goals (rw [rounds_succ]; go_wp2)
  any_goals (rw [rounds_succ]; go_wp2)
  all_goals (go_ret; refine ⟨?_, rfl⟩)
  all_goals (unfold orI; (repeat' split) <;> first | rfl | (exfalso; omega) | (exfalso; simp_all; done) | (simp_all; done))
theorem new2_0 (w : World) (x y : Value) (t b : Nat) (hb : b = w.heap.size) : (w.alloc (.cells #[x, y] t)).drew.cell? ⟨b, 0, none⟩ = some x := by
  subst hb
  show (w.alloc (.cells #[x, y] t)).cell? ⟨w.heap.size, 0, none⟩ = some x
  exact (blk_cell (blk_new w _) 0).trans rfl
theorem new2_1 (w : World) (x y : Value) (t b : Nat) (hb : b = w.heap.size) : (w.alloc (.cells #[x, y] t)).drew.cell? ⟨b, 1, none⟩ = some y := by
  subst hb
  show (w.alloc (.cells #[x, y] t)).cell? ⟨w.heap.size, 1, none⟩ = some y
  exact (blk_cell (blk_new w _) 1).trans rfl
def At4 (W w' : World) (a b c d : Int) : Prop := w'.cell? ⟨W.heap.size, 0, none⟩ = some (.int .i64 a) ∧ w'.cell? ⟨W.heap.size, 1, none⟩ = some (.int .i64 b) ∧ w'.cell? ⟨W.heap.size + 1, 0, none⟩ = some (.int .i64 c) ∧ w'.cell? ⟨W.heap.size + 1, 1, none⟩ = some (.int .i64 d) ∧ W.heap.size + 2 ≤ w'.heap.size
theorem At4.alloc {W w' : World} {a b c d : Int} (h : At4 W w' a b c d) (o : Obj) : At4 W (w'.alloc o) a b c d := by
  obtain ⟨h1, h2, h3, h4, h5⟩ := h
  have e : ∀ g j : Nat, g < W.heap.size + 2 → (w'.alloc o).cell? ⟨g, j, none⟩ = w'.cell? ⟨g, j, none⟩ := fun g j hg => World.cell?_alloc_lt _ _ _ (by show g < _; omega)
  exact ⟨(e _ _ (by omega)).trans h1, (e _ _ (by omega)).trans h2, (e _ _ (by omega)).trans h3, (e _ _ (by omega)).trans h4, by rw [World.size_alloc]; omega⟩
theorem At4.allocd {W w' : World} {a b c d : Int} (h : At4 W w' a b c d) (o : Obj) : At4 W (w'.alloc o).drew a b c d := At4.alloc h o
set_option maxHeartbeats 4000000 in
theorem order_ (a b c d : Int) (W : World) : Calls Try.prog 28 #[.agg #[.int .i64 a, .int .i64 b], .agg #[.int .i64 c, .int .i64 d]] W fun e w' => e = .returned (.int .i64 (ord a b c d)) ∧ Below W.heap.size W w' := by
  go_enter Try.func28, Try.ntmps28
  go_wp2_with fail
  go_region_held3 (fun w' : World => w'.cell? ⟨W.heap.size, 0, none⟩ = some (.int .i64 a) ∧ w'.cell? ⟨W.heap.size, 1, none⟩ = some (.int .i64 b) ∧ w'.cell? ⟨W.heap.size + 1, 0, none⟩ = some (.int .i64 c) ∧ w'.cell? ⟨W.heap.size + 1, 1, none⟩ = some (.int .i64 d) ∧ W.heap.size + 2 ≤ w'.heap.size) (first | with_reducible assumption | exact At4.allocd (by assumption) _ | (simp; done)) (first | (go_at_call 42; refine (compare_ _ _ _).mono ?_; rintro e w' ⟨rfl, rfl⟩) | (go_at_call 41; refine (or_ (cmpI a c) (cmpI b d) _ _ _ (new2_0 _ _ _ _ _ (by simp)) (new2_1 _ _ _ _ _ (by simp))).mono ?_; rintro e w' ⟨rfl, rfl⟩))
  go_wp2
  go_ret
  refine ⟨rfl, ?_⟩
  exact ((((Below.refl _ _).alloc (Nat.le_refl _) _).alloc (by simp) _).alloc (by simp; omega) _).drew
def At9 (W w' : World) (x : Ent) (kc ks : Int) (bx g : Nat) : Prop := w'.cell? ⟨W.heap.size, 0, none⟩ = some (.int .i64 x.c) ∧ w'.cell? ⟨W.heap.size, 1, none⟩ = some (.int .i64 x.s) ∧ w'.cell? ⟨W.heap.size + 1, 0, none⟩ = some (.int .i64 kc) ∧ w'.cell? ⟨W.heap.size + 1, 1, none⟩ = some (.int .i64 ks) ∧ w'.cell? ⟨bx, 0, none⟩ = some (.pointer (some ⟨g, 0, none⟩)) ∧ w'.cell? ⟨g, 1, none⟩ = some (.func (.func 28) #[] #[]) ∧ W.heap.size + 2 ≤ w'.heap.size ∧ bx < W.heap.size ∧ g < W.heap.size
theorem At9.below {W w' w2 : World} {x : Ent} {kc ks : Int} {bx g : Nat} (h : At9 W w' x kc ks bx g) (hb : Below w'.heap.size w' w2) : At9 W w2 x kc ks bx g := by
  obtain ⟨h1, h2, h3, h4, h5, h6, h7, h8, h9⟩ := h
  have e : ∀ b j : Nat, b < W.heap.size + 2 → w2.cell? ⟨b, j, none⟩ = w'.cell? ⟨b, j, none⟩ := fun b j hg => hb.cell (by show b < _; omega)
  exact ⟨(e _ _ (by omega)).trans h1, (e _ _ (by omega)).trans h2, (e _ _ (by omega)).trans h3, (e _ _ (by omega)).trans h4, (e _ _ (by omega)).trans h5, (e _ _ (by omega)).trans h6, Nat.le_trans h7 hb.size, h8, h9⟩
set_option maxHeartbeats 4000000 in
theorem find1_ (x : Ent) (kc ks : Int) (W : World) (bx g : Nat) (hx : W.cell? ⟨bx, 0, none⟩ = some (.pointer (some ⟨g, 0, none⟩))) (hg : W.cell? ⟨g, 1, none⟩ = some (.func (.func 28) #[] #[])) : Calls Try.prog 52 #[encV x, .agg #[.int .i64 kc, .int .i64 ks], .pointer (some ⟨bx, 0, none⟩)] W fun e w' => e = .returned (.int .i64 (ord x.c x.s kc ks)) ∧ Below W.heap.size W w' := by
  have hbx := World.block_lt_of_cell? W _ hx
  have hgx := World.block_lt_of_cell? W _ hg
  obtain ⟨x1, x2, x3, x4, x5, x6, x7⟩ := x
  show Calls Try.prog 52 #[.agg #[.int .i64 x1, .int .i64 x2, .int .i64 x3, .int .i64 x4, .int .i64 x5, .int .i64 x6, .int .i64 x7], .agg #[.int .i64 kc, .int .i64 ks], .pointer (some ⟨bx, 0, none⟩)] W fun e w' => e = .returned (.int .i64 (ord x1 x2 kc ks)) ∧ Below W.heap.size W w'
  go_enter Try.func52, Try.ntmps52
  go_wp2_with fail
  go_region_held3 (fun w' : World => w'.cell? ⟨W.heap.size, 0, none⟩ = some (.int .i64 x1) ∧ w'.cell? ⟨W.heap.size, 1, none⟩ = some (.int .i64 x2) ∧ w'.cell? ⟨W.heap.size + 1, 0, none⟩ = some (.int .i64 kc) ∧ w'.cell? ⟨W.heap.size + 1, 1, none⟩ = some (.int .i64 ks) ∧ w'.cell? ⟨bx, 0, none⟩ = some (.pointer (some ⟨g, 0, none⟩)) ∧ w'.cell? ⟨g, 1, none⟩ = some (.func (.func 28) #[] #[]) ∧ W.heap.size + 2 ≤ w'.heap.size ∧ bx < W.heap.size ∧ g < W.heap.size) (first | with_reducible assumption | exact At9.below (x := ⟨x1, x2, x3, x4, x5, x6, x7⟩) (by assumption) (by assumption) | (simp [*, World.cell?_alloc_lt, World.cell?_alloc_some]; done)) (first | (go_at_call 28; refine (order_ _ _ _ _ _).mono ?_; rintro e w2 ⟨rfl, hb2⟩))
  go_wp2
  go_ret
  refine ⟨rfl, ?_⟩
  exact below_step (below_drew (below_alloc (below_alloc (Below.refl _ _) _) _)) hb2
end Go.Proofs.Ytfdfnmlbmijdjaa.Rt
