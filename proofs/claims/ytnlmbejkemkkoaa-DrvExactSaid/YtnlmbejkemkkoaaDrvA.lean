/-
  Walks of the drivers' closures.
  No conditions.
-/
import Derived.Test.YtnlmbejkemkkoaaProg
import Derived.Below
import Derived.WalkKit
import Derived.KernelRfl
import Derived.RowKit3
import Derived.LoopTactic
import Derived.Deep.RegionHeld3
import Derived.Deep.QuietTactic
import Derived.BigQuiet
import Derived.Lib.Hide
namespace Go.Proofs.Ytnlmbejkemkkoaa.Dr
open Go.RowKit
set_option linter.unusedSimpArgs false
set_option linter.unusedVariables false
theorem heap3_1 (w : World) (A B C : Obj) : (((w.alloc A).alloc B).alloc C).heap[w.heap.size + 1]? = some B := by
  rw [heap_alloc_old _ _ (by simp)]
  exact heap_alloc2_new w A B
theorem heap4_1 (w : World) (A B C D : Obj) : ((((w.alloc A).alloc B).alloc C).alloc D).heap[w.heap.size + 1]? = some B := by
  rw [heap_alloc_old _ _ (by simp)]
  exact heap3_1 w A B C
theorem heap4_3 (w : World) (A B C D : Obj) : ((((w.alloc A).alloc B).alloc C).alloc D).heap[w.heap.size + 3]? = some D := by
  have h := heap_alloc_new (((w.alloc A).alloc B).alloc C) D
  have e : (((w.alloc A).alloc B).alloc C).heap.size = w.heap.size + 3 := by simp
  rwa [e] at h
/-- A closure that always tells a number. -/
theorem always_any (n : Int) (w : World) : Calls Try.prog 50 #[.int .i64 n] w fun e w' => e = .returned (.func (.func 65) #[] #[.pointer (some ⟨w.heap.size, 0, none⟩)]) ∧ w' = w.alloc (.cells #[.int .i64 n] 3) := by
  go_enter Try.func50, Try.ntmps50
  go_wp2
  go_ret
  exact ⟨rfl, rfl⟩
theorem read_any (n : Int) (fn : Fn) (fi ca : Array Value) (w : World) : Calls Try.prog 51 #[.int .i64 n, .func fn fi ca] w fun e w' => e = .returned (.func (.func 66) #[] #[.pointer (some ⟨w.heap.size, 0, none⟩), .pointer (some ⟨w.heap.size + 1, 0, none⟩)]) ∧ w' = (w.alloc (.cells #[.int .i64 n] 3)).alloc (.cells #[.func fn fi ca] 119) := by
  go_enter Try.func51, Try.ntmps51
  go_wp2
  go_ret
  exact ⟨rfl, rfl⟩
theorem write_any (n : Int) (fn : Fn) (fi ca : Array Value) (w : World) : Calls Try.prog 53 #[.int .i64 n, .func fn fi ca] w fun e w' => e = .returned (.func (.func 67) #[] #[.pointer (some ⟨w.heap.size, 0, none⟩), .pointer (some ⟨w.heap.size + 1, 0, none⟩)]) ∧ w' = (w.alloc (.cells #[.int .i64 n] 3)).alloc (.cells #[.func fn fi ca] 119) := by
  go_enter Try.func53, Try.ntmps53
  go_wp2
  go_ret
  exact ⟨rfl, rfl⟩
theorem becomes_any (n : Int) (b : Bool) (w : World) : Calls Try.prog 58 #[.int .i64 n, .bool b] w fun e w' => e = .returned (.func (.func 70) #[] #[.pointer (some ⟨w.heap.size, 0, none⟩), .pointer (some ⟨w.heap.size + 1, 0, none⟩)]) ∧ w' = (w.alloc (.cells #[.int .i64 n] 3)).alloc (.cells #[.bool b] 4) := by
  go_enter Try.func58, Try.ntmps58
  go_wp2
  go_ret
  exact ⟨rfl, rfl⟩
theorem always1_any (z : Addr) (n : Int) (a i : Int) (p : Bool) (b c e : Int) (t : Bool) (l q : Int) (w : World) (hz : w.cell? z = some (.int .i64 n)) :
    Calls Try.prog 65 #[.agg #[.int .i64 a, .int .i64 i, .bool p, .int .i64 b, .int .i64 c, .int .i64 e, .bool t, .int .i64 l, .int .i64 q], .pointer (some z)] w fun e' w' => e' = .returned (.int .i64 n) ∧ w' = w.alloc (.cells #[.int .i64 a, .int .i64 i, .bool p, .int .i64 b, .int .i64 c, .int .i64 e, .bool t, .int .i64 l, .int .i64 q] 24) := by
  have hlt := World.block_lt_of_cell? w z hz
  go_enter Try.func65, Try.ntmps65
  go_wp2
  go_ret
  exact ⟨rfl, rfl⟩
theorem period_any (a i : Int) (p : Bool) (b c e : Int) (t : Bool) (l q : Int) (w : World) :
    Calls Try.prog 54 #[.agg #[.int .i64 a, .int .i64 i, .bool p, .int .i64 b, .int .i64 c, .int .i64 e, .bool t, .int .i64 l, .int .i64 q]] w fun e' w' => e' = .returned (.int .i64 (b)) ∧ w' = w.alloc (.cells #[.int .i64 a, .int .i64 i, .bool p, .int .i64 b, .int .i64 c, .int .i64 e, .bool t, .int .i64 l, .int .i64 q] 24) := by
  go_enter Try.func54, Try.ntmps54
  go_wp2
  go_ret
  exact ⟨rfl, rfl⟩
theorem left_any (a i : Int) (p : Bool) (b c e : Int) (t : Bool) (l q : Int) (w : World) (h0 : 0 ≤ l) (h1 : l ≤ 16) :
    Calls Try.prog 56 #[.agg #[.int .i64 a, .int .i64 i, .bool p, .int .i64 b, .int .i64 c, .int .i64 e, .bool t, .int .i64 l, .int .i64 q]] w fun e' w' => e' = .returned (.int .i64 (8 * l)) ∧ w' = w.alloc (.cells #[.int .i64 a, .int .i64 i, .bool p, .int .i64 b, .int .i64 c, .int .i64 e, .bool t, .int .i64 l, .int .i64 q] 24) := by
  go_enter Try.func56, Try.ntmps56
  go_wp2
  go_ret
  exact ⟨rfl, rfl⟩
set_option maxHeartbeats 2000000 in
theorem read1_always (x y z : Addr) (a i : Int) (p : Bool) (b c e : Int) (t : Bool) (l q : Int) (reg n : Int) (w : World) (hx : w.cell? x = some (.int .i64 reg)) (hy : w.cell? y = some (.func (.func 65) #[] #[.pointer (some z)])) (hz : w.cell? z = some (.int .i64 n)) :
    Calls Try.prog 66 #[.agg #[.int .i64 a, .int .i64 i, .bool p, .int .i64 b, .int .i64 c, .int .i64 e, .bool t, .int .i64 l, .int .i64 q], .pointer (some x), .pointer (some y)] w fun e' w' => e' = .returned (.agg #[.int .i64 a, .int .i64 reg, .slice none 0 0, .int .i64 n]) ∧ Below w.heap.size w w' := by
  have hxl := World.block_lt_of_cell? w x hx
  have hyl := World.block_lt_of_cell? w y hy
  have hzl := World.block_lt_of_cell? w z hz
  have hi : (Try.prog.info? 31).map (·.size) = some 4 := by kernel_rfl
  go_enter Try.func66, Try.ntmps66
  go_wp2
  have key : ∀ (W : World) (o : Obj), (fun w' => w'.cell? x = some (.int .i64 reg) ∧ w'.cell? y = some (.func (.func 65) #[] #[.pointer (some z)]) ∧ w'.cell? z = some (.int .i64 n) ∧ w'.cell? ⟨w.heap.size, 0, none⟩ = some (.int .i64 a) ∧ w'.cell? ⟨w.heap.size, 1, none⟩ = some (.int .i64 i) ∧ w'.cell? ⟨w.heap.size, 2, none⟩ = some (.bool p) ∧ w'.cell? ⟨w.heap.size, 3, none⟩ = some (.int .i64 b) ∧ w'.cell? ⟨w.heap.size, 4, none⟩ = some (.int .i64 c) ∧ w'.cell? ⟨w.heap.size, 5, none⟩ = some (.int .i64 e) ∧ w'.cell? ⟨w.heap.size, 6, none⟩ = some (.bool t) ∧ w'.cell? ⟨w.heap.size, 7, none⟩ = some (.int .i64 l) ∧ w'.cell? ⟨w.heap.size, 8, none⟩ = some (.int .i64 q) ∧ w.heap.size + 2 ≤ w'.heap.size) W → (fun w' => w'.cell? x = some (.int .i64 reg) ∧ w'.cell? y = some (.func (.func 65) #[] #[.pointer (some z)]) ∧ w'.cell? z = some (.int .i64 n) ∧ w'.cell? ⟨w.heap.size, 0, none⟩ = some (.int .i64 a) ∧ w'.cell? ⟨w.heap.size, 1, none⟩ = some (.int .i64 i) ∧ w'.cell? ⟨w.heap.size, 2, none⟩ = some (.bool p) ∧ w'.cell? ⟨w.heap.size, 3, none⟩ = some (.int .i64 b) ∧ w'.cell? ⟨w.heap.size, 4, none⟩ = some (.int .i64 c) ∧ w'.cell? ⟨w.heap.size, 5, none⟩ = some (.int .i64 e) ∧ w'.cell? ⟨w.heap.size, 6, none⟩ = some (.bool t) ∧ w'.cell? ⟨w.heap.size, 7, none⟩ = some (.int .i64 l) ∧ w'.cell? ⟨w.heap.size, 8, none⟩ = some (.int .i64 q) ∧ w.heap.size + 2 ≤ w'.heap.size) (W.alloc o) := by
    intro W o h
    have hk : ∀ a : Addr, a.block < w.heap.size + 2 → (W.alloc o).cell? a = W.cell? a := fun a ha => World.cell?_alloc_lt _ _ _ (Nat.lt_of_lt_of_le ha h.2.2.2.2.2.2.2.2.2.2.2.2)
    have hd : ∀ j : Nat, (W.alloc o).cell? ⟨w.heap.size, j, none⟩ = W.cell? ⟨w.heap.size, j, none⟩ := fun j => hk _ (by show w.heap.size < w.heap.size + 2; omega)
    refine ⟨(hk x (by omega)).trans h.1, (hk y (by omega)).trans h.2.1, (hk z (by omega)).trans h.2.2.1, (hd 0).trans h.2.2.2.1, (hd 1).trans h.2.2.2.2.1, (hd 2).trans h.2.2.2.2.2.1, (hd 3).trans h.2.2.2.2.2.2.1, (hd 4).trans h.2.2.2.2.2.2.2.1, (hd 5).trans h.2.2.2.2.2.2.2.2.1, (hd 6).trans h.2.2.2.2.2.2.2.2.2.1, (hd 7).trans h.2.2.2.2.2.2.2.2.2.2.1, (hd 8).trans h.2.2.2.2.2.2.2.2.2.2.2.1, Nat.le_trans h.2.2.2.2.2.2.2.2.2.2.2.2 (by rw [World.size_alloc]; omega)⟩
  have key' := Lib.hid key
  clear key
  have hx1 : x.block < w.heap.size + 1 := by omega
  have hx2 : x.block < w.heap.size + 1 + 1 := by omega
  have hx3 : x.block < w.heap.size + 1 + 1 + 1 := by omega
  have hy1 : y.block < w.heap.size + 1 := by omega
  have hy2 : y.block < w.heap.size + 1 + 1 := by omega
  have hy3 : y.block < w.heap.size + 1 + 1 + 1 := by omega
  have hz1 : z.block < w.heap.size + 1 := by omega
  have hz2 : z.block < w.heap.size + 1 + 1 := by omega
  have hz3 : z.block < w.heap.size + 1 + 1 + 1 := by omega
  go_region_held3 (fun w' => w'.cell? x = some (.int .i64 reg) ∧ w'.cell? y = some (.func (.func 65) #[] #[.pointer (some z)]) ∧ w'.cell? z = some (.int .i64 n) ∧ w'.cell? ⟨w.heap.size, 0, none⟩ = some (.int .i64 a) ∧ w'.cell? ⟨w.heap.size, 1, none⟩ = some (.int .i64 i) ∧ w'.cell? ⟨w.heap.size, 2, none⟩ = some (.bool p) ∧ w'.cell? ⟨w.heap.size, 3, none⟩ = some (.int .i64 b) ∧ w'.cell? ⟨w.heap.size, 4, none⟩ = some (.int .i64 c) ∧ w'.cell? ⟨w.heap.size, 5, none⟩ = some (.int .i64 e) ∧ w'.cell? ⟨w.heap.size, 6, none⟩ = some (.bool t) ∧ w'.cell? ⟨w.heap.size, 7, none⟩ = some (.int .i64 l) ∧ w'.cell? ⟨w.heap.size, 8, none⟩ = some (.int .i64 q) ∧ w.heap.size + 2 ≤ w'.heap.size) (first | (refine key'.out _ _ ?_; assumption) | (simp [*, World.cell?_alloc_lt, World.cell?_alloc_some, World.cell?_setCell_far])) (first | (go_at_call 65; refine (always1_any z n a i p b c e t l q _ ?_).mono ?_; (simp [*]); rintro e w' ⟨rfl, rfl⟩))
  go_wp2
  refine bodyPost_ret (v := .agg #[.int .i64 a, .int .i64 reg, .slice none 0 0, .int .i64 n]) ?_ rfl ?_
  · exact results_cell_row (fn := Try.f66) (p := 4) (ty := 31) rfl _ _ (w.heap.size + 1) 31 #[.int .i64 a, .int .i64 reg, .slice none 0 0, .int .i64 n] (0, 0) _ rfl (heap3_1 _ _ _ _) Try.underlying31 rfl hi
  · exact ⟨rfl, ((((Below.refl _ _).alloc (Nat.le_refl _) _).alloc (by simp <;> omega) _).alloc (by simp <;> omega) _).drew⟩
set_option maxHeartbeats 2000000 in
theorem read1_left (x y : Addr) (a i : Int) (p : Bool) (b c e : Int) (t : Bool) (l q : Int) (reg : Int) (w : World) (hx : w.cell? x = some (.int .i64 reg)) (hy : w.cell? y = some (.func (.func 56) #[] #[])) (h0 : 0 ≤ l) (h1 : l ≤ 16) :
    Calls Try.prog 66 #[.agg #[.int .i64 a, .int .i64 i, .bool p, .int .i64 b, .int .i64 c, .int .i64 e, .bool t, .int .i64 l, .int .i64 q], .pointer (some x), .pointer (some y)] w fun e' w' => e' = .returned (.agg #[.int .i64 a, .int .i64 reg, .slice none 0 0, .int .i64 (8 * l)]) ∧ Below w.heap.size w w' := by
  have hxl := World.block_lt_of_cell? w x hx
  have hyl := World.block_lt_of_cell? w y hy
  have hi : (Try.prog.info? 31).map (·.size) = some 4 := by kernel_rfl
  go_enter Try.func66, Try.ntmps66
  go_wp2
  have key : ∀ (W : World) (o : Obj), (fun w' => w'.cell? x = some (.int .i64 reg) ∧ w'.cell? y = some (.func (.func 56) #[] #[]) ∧ w'.cell? ⟨w.heap.size, 0, none⟩ = some (.int .i64 a) ∧ w'.cell? ⟨w.heap.size, 1, none⟩ = some (.int .i64 i) ∧ w'.cell? ⟨w.heap.size, 2, none⟩ = some (.bool p) ∧ w'.cell? ⟨w.heap.size, 3, none⟩ = some (.int .i64 b) ∧ w'.cell? ⟨w.heap.size, 4, none⟩ = some (.int .i64 c) ∧ w'.cell? ⟨w.heap.size, 5, none⟩ = some (.int .i64 e) ∧ w'.cell? ⟨w.heap.size, 6, none⟩ = some (.bool t) ∧ w'.cell? ⟨w.heap.size, 7, none⟩ = some (.int .i64 l) ∧ w'.cell? ⟨w.heap.size, 8, none⟩ = some (.int .i64 q) ∧ w.heap.size + 2 ≤ w'.heap.size) W → (fun w' => w'.cell? x = some (.int .i64 reg) ∧ w'.cell? y = some (.func (.func 56) #[] #[]) ∧ w'.cell? ⟨w.heap.size, 0, none⟩ = some (.int .i64 a) ∧ w'.cell? ⟨w.heap.size, 1, none⟩ = some (.int .i64 i) ∧ w'.cell? ⟨w.heap.size, 2, none⟩ = some (.bool p) ∧ w'.cell? ⟨w.heap.size, 3, none⟩ = some (.int .i64 b) ∧ w'.cell? ⟨w.heap.size, 4, none⟩ = some (.int .i64 c) ∧ w'.cell? ⟨w.heap.size, 5, none⟩ = some (.int .i64 e) ∧ w'.cell? ⟨w.heap.size, 6, none⟩ = some (.bool t) ∧ w'.cell? ⟨w.heap.size, 7, none⟩ = some (.int .i64 l) ∧ w'.cell? ⟨w.heap.size, 8, none⟩ = some (.int .i64 q) ∧ w.heap.size + 2 ≤ w'.heap.size) (W.alloc o) := by
    intro W o h
    have hk : ∀ a : Addr, a.block < w.heap.size + 2 → (W.alloc o).cell? a = W.cell? a := fun a ha => World.cell?_alloc_lt _ _ _ (Nat.lt_of_lt_of_le ha h.2.2.2.2.2.2.2.2.2.2.2)
    have hd : ∀ j : Nat, (W.alloc o).cell? ⟨w.heap.size, j, none⟩ = W.cell? ⟨w.heap.size, j, none⟩ := fun j => hk _ (by show w.heap.size < w.heap.size + 2; omega)
    refine ⟨(hk x (by omega)).trans h.1, (hk y (by omega)).trans h.2.1, (hd 0).trans h.2.2.1, (hd 1).trans h.2.2.2.1, (hd 2).trans h.2.2.2.2.1, (hd 3).trans h.2.2.2.2.2.1, (hd 4).trans h.2.2.2.2.2.2.1, (hd 5).trans h.2.2.2.2.2.2.2.1, (hd 6).trans h.2.2.2.2.2.2.2.2.1, (hd 7).trans h.2.2.2.2.2.2.2.2.2.1, (hd 8).trans h.2.2.2.2.2.2.2.2.2.2.1, Nat.le_trans h.2.2.2.2.2.2.2.2.2.2.2 (by rw [World.size_alloc]; omega)⟩
  have key' := Lib.hid key
  clear key
  have hx1 : x.block < w.heap.size + 1 := by omega
  have hx2 : x.block < w.heap.size + 1 + 1 := by omega
  have hx3 : x.block < w.heap.size + 1 + 1 + 1 := by omega
  have hy1 : y.block < w.heap.size + 1 := by omega
  have hy2 : y.block < w.heap.size + 1 + 1 := by omega
  have hy3 : y.block < w.heap.size + 1 + 1 + 1 := by omega
  go_region_held3 (fun w' => w'.cell? x = some (.int .i64 reg) ∧ w'.cell? y = some (.func (.func 56) #[] #[]) ∧ w'.cell? ⟨w.heap.size, 0, none⟩ = some (.int .i64 a) ∧ w'.cell? ⟨w.heap.size, 1, none⟩ = some (.int .i64 i) ∧ w'.cell? ⟨w.heap.size, 2, none⟩ = some (.bool p) ∧ w'.cell? ⟨w.heap.size, 3, none⟩ = some (.int .i64 b) ∧ w'.cell? ⟨w.heap.size, 4, none⟩ = some (.int .i64 c) ∧ w'.cell? ⟨w.heap.size, 5, none⟩ = some (.int .i64 e) ∧ w'.cell? ⟨w.heap.size, 6, none⟩ = some (.bool t) ∧ w'.cell? ⟨w.heap.size, 7, none⟩ = some (.int .i64 l) ∧ w'.cell? ⟨w.heap.size, 8, none⟩ = some (.int .i64 q) ∧ w.heap.size + 2 ≤ w'.heap.size) (first | (refine key'.out _ _ ?_; assumption) | (simp [*, World.cell?_alloc_lt, World.cell?_alloc_some, World.cell?_setCell_far])) (first | (go_at_call 56; refine (left_any a i p b c e t l q _ h0 h1).mono ?_; rintro e w' ⟨rfl, rfl⟩))
  go_wp2
  refine bodyPost_ret (v := .agg #[.int .i64 a, .int .i64 reg, .slice none 0 0, .int .i64 (8 * l)]) ?_ rfl ?_
  · exact results_cell_row (fn := Try.f66) (p := 4) (ty := 31) rfl _ _ (w.heap.size + 1) 31 #[.int .i64 a, .int .i64 reg, .slice none 0 0, .int .i64 (8 * l)] (0, 0) _ rfl (heap3_1 _ _ _ _) Try.underlying31 rfl hi
  · exact ⟨rfl, ((((Below.refl _ _).alloc (Nat.le_refl _) _).alloc (by simp <;> omega) _).alloc (by simp <;> omega) _).drew⟩
set_option maxHeartbeats 2000000 in
theorem write1_always (x y z : Addr) (a i : Int) (p : Bool) (b c e : Int) (t : Bool) (l q : Int) (reg n : Int) (w : World) (hx : w.cell? x = some (.int .i64 reg)) (hy : w.cell? y = some (.func (.func 65) #[] #[.pointer (some z)])) (hz : w.cell? z = some (.int .i64 n)) :
    Calls Try.prog 67 #[.agg #[.int .i64 a, .int .i64 i, .bool p, .int .i64 b, .int .i64 c, .int .i64 e, .bool t, .int .i64 l, .int .i64 q], .pointer (some x), .pointer (some y)] w fun e' w' => e' = .returned (.agg #[.int .i64 a, .int .i64 reg, .slice (some ⟨w.heap.size + 3, 0, none⟩) 1 1, .int .i64 0]) ∧ Below w.heap.size w w' ∧ w'.heap[w.heap.size + 3]? = some (.cells #[.int .u8 (n % 256)] 5 (0, 0)) := by
  have hxl := World.block_lt_of_cell? w x hx
  have hyl := World.block_lt_of_cell? w y hy
  have hzl := World.block_lt_of_cell? w z hz
  have hi : (Try.prog.info? 31).map (·.size) = some 4 := by kernel_rfl
  go_enter Try.func67, Try.ntmps67
  go_wp2
  have key : ∀ (W : World) (o : Obj), (fun w' => w'.cell? x = some (.int .i64 reg) ∧ w'.cell? y = some (.func (.func 65) #[] #[.pointer (some z)]) ∧ w'.cell? z = some (.int .i64 n) ∧ w'.cell? ⟨w.heap.size, 0, none⟩ = some (.int .i64 a) ∧ w'.cell? ⟨w.heap.size, 1, none⟩ = some (.int .i64 i) ∧ w'.cell? ⟨w.heap.size, 2, none⟩ = some (.bool p) ∧ w'.cell? ⟨w.heap.size, 3, none⟩ = some (.int .i64 b) ∧ w'.cell? ⟨w.heap.size, 4, none⟩ = some (.int .i64 c) ∧ w'.cell? ⟨w.heap.size, 5, none⟩ = some (.int .i64 e) ∧ w'.cell? ⟨w.heap.size, 6, none⟩ = some (.bool t) ∧ w'.cell? ⟨w.heap.size, 7, none⟩ = some (.int .i64 l) ∧ w'.cell? ⟨w.heap.size, 8, none⟩ = some (.int .i64 q) ∧ w.heap.size + 2 ≤ w'.heap.size) W → (fun w' => w'.cell? x = some (.int .i64 reg) ∧ w'.cell? y = some (.func (.func 65) #[] #[.pointer (some z)]) ∧ w'.cell? z = some (.int .i64 n) ∧ w'.cell? ⟨w.heap.size, 0, none⟩ = some (.int .i64 a) ∧ w'.cell? ⟨w.heap.size, 1, none⟩ = some (.int .i64 i) ∧ w'.cell? ⟨w.heap.size, 2, none⟩ = some (.bool p) ∧ w'.cell? ⟨w.heap.size, 3, none⟩ = some (.int .i64 b) ∧ w'.cell? ⟨w.heap.size, 4, none⟩ = some (.int .i64 c) ∧ w'.cell? ⟨w.heap.size, 5, none⟩ = some (.int .i64 e) ∧ w'.cell? ⟨w.heap.size, 6, none⟩ = some (.bool t) ∧ w'.cell? ⟨w.heap.size, 7, none⟩ = some (.int .i64 l) ∧ w'.cell? ⟨w.heap.size, 8, none⟩ = some (.int .i64 q) ∧ w.heap.size + 2 ≤ w'.heap.size) (W.alloc o) := by
    intro W o h
    have hk : ∀ a : Addr, a.block < w.heap.size + 2 → (W.alloc o).cell? a = W.cell? a := fun a ha => World.cell?_alloc_lt _ _ _ (Nat.lt_of_lt_of_le ha h.2.2.2.2.2.2.2.2.2.2.2.2)
    have hd : ∀ j : Nat, (W.alloc o).cell? ⟨w.heap.size, j, none⟩ = W.cell? ⟨w.heap.size, j, none⟩ := fun j => hk _ (by show w.heap.size < w.heap.size + 2; omega)
    refine ⟨(hk x (by omega)).trans h.1, (hk y (by omega)).trans h.2.1, (hk z (by omega)).trans h.2.2.1, (hd 0).trans h.2.2.2.1, (hd 1).trans h.2.2.2.2.1, (hd 2).trans h.2.2.2.2.2.1, (hd 3).trans h.2.2.2.2.2.2.1, (hd 4).trans h.2.2.2.2.2.2.2.1, (hd 5).trans h.2.2.2.2.2.2.2.2.1, (hd 6).trans h.2.2.2.2.2.2.2.2.2.1, (hd 7).trans h.2.2.2.2.2.2.2.2.2.2.1, (hd 8).trans h.2.2.2.2.2.2.2.2.2.2.2.1, Nat.le_trans h.2.2.2.2.2.2.2.2.2.2.2.2 (by rw [World.size_alloc]; omega)⟩
  have key' := Lib.hid key
  clear key
  have hx1 : x.block < w.heap.size + 1 := by omega
  have hx2 : x.block < w.heap.size + 1 + 1 := by omega
  have hx3 : x.block < w.heap.size + 1 + 1 + 1 := by omega
  have hy1 : y.block < w.heap.size + 1 := by omega
  have hy2 : y.block < w.heap.size + 1 + 1 := by omega
  have hy3 : y.block < w.heap.size + 1 + 1 + 1 := by omega
  have hz1 : z.block < w.heap.size + 1 := by omega
  have hz2 : z.block < w.heap.size + 1 + 1 := by omega
  have hz3 : z.block < w.heap.size + 1 + 1 + 1 := by omega
  go_region_held3 (fun w' => w'.cell? x = some (.int .i64 reg) ∧ w'.cell? y = some (.func (.func 65) #[] #[.pointer (some z)]) ∧ w'.cell? z = some (.int .i64 n) ∧ w'.cell? ⟨w.heap.size, 0, none⟩ = some (.int .i64 a) ∧ w'.cell? ⟨w.heap.size, 1, none⟩ = some (.int .i64 i) ∧ w'.cell? ⟨w.heap.size, 2, none⟩ = some (.bool p) ∧ w'.cell? ⟨w.heap.size, 3, none⟩ = some (.int .i64 b) ∧ w'.cell? ⟨w.heap.size, 4, none⟩ = some (.int .i64 c) ∧ w'.cell? ⟨w.heap.size, 5, none⟩ = some (.int .i64 e) ∧ w'.cell? ⟨w.heap.size, 6, none⟩ = some (.bool t) ∧ w'.cell? ⟨w.heap.size, 7, none⟩ = some (.int .i64 l) ∧ w'.cell? ⟨w.heap.size, 8, none⟩ = some (.int .i64 q) ∧ w.heap.size + 2 ≤ w'.heap.size) (first | (refine key'.out _ _ ?_; assumption) | (simp [*, World.cell?_alloc_lt, World.cell?_alloc_some, World.cell?_setCell_far])) (first | (go_at_call 65; refine (always1_any z n a i p b c e t l q _ ?_).mono ?_; (simp [*]); rintro e w' ⟨rfl, rfl⟩))
  go_wp2
  refine bodyPost_ret (v := .agg #[.int .i64 a, .int .i64 reg, .slice (some ⟨w.heap.size + 3, 0, none⟩) 1 1, .int .i64 0]) ?_ rfl ?_
  · exact results_cell_row (fn := Try.f67) (p := 4) (ty := 31) rfl _ _ (w.heap.size + 1) 31 #[.int .i64 a, .int .i64 reg, .slice (some ⟨w.heap.size + 3, 0, none⟩) 1 1, .int .i64 0] (0, 0) _ rfl (heap4_1 _ _ _ _ _) Try.underlying31 rfl hi
  · exact ⟨rfl, (((((Below.refl _ _).alloc (Nat.le_refl _) _).alloc (by simp <;> omega) _).alloc (by simp <;> omega) _).alloc (by simp <;> omega) _).drew, heap4_3 _ _ _ _ _⟩
set_option maxHeartbeats 2000000 in
theorem write1_period (x y : Addr) (a i : Int) (p : Bool) (b c e : Int) (t : Bool) (l q : Int) (reg : Int) (w : World) (hx : w.cell? x = some (.int .i64 reg)) (hy : w.cell? y = some (.func (.func 54) #[] #[])) :
    Calls Try.prog 67 #[.agg #[.int .i64 a, .int .i64 i, .bool p, .int .i64 b, .int .i64 c, .int .i64 e, .bool t, .int .i64 l, .int .i64 q], .pointer (some x), .pointer (some y)] w fun e' w' => e' = .returned (.agg #[.int .i64 a, .int .i64 reg, .slice (some ⟨w.heap.size + 3, 0, none⟩) 1 1, .int .i64 0]) ∧ Below w.heap.size w w' ∧ w'.heap[w.heap.size + 3]? = some (.cells #[.int .u8 (b % 256)] 5 (0, 0)) := by
  have hxl := World.block_lt_of_cell? w x hx
  have hyl := World.block_lt_of_cell? w y hy
  have hi : (Try.prog.info? 31).map (·.size) = some 4 := by kernel_rfl
  go_enter Try.func67, Try.ntmps67
  go_wp2
  have key : ∀ (W : World) (o : Obj), (fun w' => w'.cell? x = some (.int .i64 reg) ∧ w'.cell? y = some (.func (.func 54) #[] #[]) ∧ w'.cell? ⟨w.heap.size, 0, none⟩ = some (.int .i64 a) ∧ w'.cell? ⟨w.heap.size, 1, none⟩ = some (.int .i64 i) ∧ w'.cell? ⟨w.heap.size, 2, none⟩ = some (.bool p) ∧ w'.cell? ⟨w.heap.size, 3, none⟩ = some (.int .i64 b) ∧ w'.cell? ⟨w.heap.size, 4, none⟩ = some (.int .i64 c) ∧ w'.cell? ⟨w.heap.size, 5, none⟩ = some (.int .i64 e) ∧ w'.cell? ⟨w.heap.size, 6, none⟩ = some (.bool t) ∧ w'.cell? ⟨w.heap.size, 7, none⟩ = some (.int .i64 l) ∧ w'.cell? ⟨w.heap.size, 8, none⟩ = some (.int .i64 q) ∧ w.heap.size + 2 ≤ w'.heap.size) W → (fun w' => w'.cell? x = some (.int .i64 reg) ∧ w'.cell? y = some (.func (.func 54) #[] #[]) ∧ w'.cell? ⟨w.heap.size, 0, none⟩ = some (.int .i64 a) ∧ w'.cell? ⟨w.heap.size, 1, none⟩ = some (.int .i64 i) ∧ w'.cell? ⟨w.heap.size, 2, none⟩ = some (.bool p) ∧ w'.cell? ⟨w.heap.size, 3, none⟩ = some (.int .i64 b) ∧ w'.cell? ⟨w.heap.size, 4, none⟩ = some (.int .i64 c) ∧ w'.cell? ⟨w.heap.size, 5, none⟩ = some (.int .i64 e) ∧ w'.cell? ⟨w.heap.size, 6, none⟩ = some (.bool t) ∧ w'.cell? ⟨w.heap.size, 7, none⟩ = some (.int .i64 l) ∧ w'.cell? ⟨w.heap.size, 8, none⟩ = some (.int .i64 q) ∧ w.heap.size + 2 ≤ w'.heap.size) (W.alloc o) := by
    intro W o h
    have hk : ∀ a : Addr, a.block < w.heap.size + 2 → (W.alloc o).cell? a = W.cell? a := fun a ha => World.cell?_alloc_lt _ _ _ (Nat.lt_of_lt_of_le ha h.2.2.2.2.2.2.2.2.2.2.2)
    have hd : ∀ j : Nat, (W.alloc o).cell? ⟨w.heap.size, j, none⟩ = W.cell? ⟨w.heap.size, j, none⟩ := fun j => hk _ (by show w.heap.size < w.heap.size + 2; omega)
    refine ⟨(hk x (by omega)).trans h.1, (hk y (by omega)).trans h.2.1, (hd 0).trans h.2.2.1, (hd 1).trans h.2.2.2.1, (hd 2).trans h.2.2.2.2.1, (hd 3).trans h.2.2.2.2.2.1, (hd 4).trans h.2.2.2.2.2.2.1, (hd 5).trans h.2.2.2.2.2.2.2.1, (hd 6).trans h.2.2.2.2.2.2.2.2.1, (hd 7).trans h.2.2.2.2.2.2.2.2.2.1, (hd 8).trans h.2.2.2.2.2.2.2.2.2.2.1, Nat.le_trans h.2.2.2.2.2.2.2.2.2.2.2 (by rw [World.size_alloc]; omega)⟩
  have key' := Lib.hid key
  clear key
  have hx1 : x.block < w.heap.size + 1 := by omega
  have hx2 : x.block < w.heap.size + 1 + 1 := by omega
  have hx3 : x.block < w.heap.size + 1 + 1 + 1 := by omega
  have hy1 : y.block < w.heap.size + 1 := by omega
  have hy2 : y.block < w.heap.size + 1 + 1 := by omega
  have hy3 : y.block < w.heap.size + 1 + 1 + 1 := by omega
  go_region_held3 (fun w' => w'.cell? x = some (.int .i64 reg) ∧ w'.cell? y = some (.func (.func 54) #[] #[]) ∧ w'.cell? ⟨w.heap.size, 0, none⟩ = some (.int .i64 a) ∧ w'.cell? ⟨w.heap.size, 1, none⟩ = some (.int .i64 i) ∧ w'.cell? ⟨w.heap.size, 2, none⟩ = some (.bool p) ∧ w'.cell? ⟨w.heap.size, 3, none⟩ = some (.int .i64 b) ∧ w'.cell? ⟨w.heap.size, 4, none⟩ = some (.int .i64 c) ∧ w'.cell? ⟨w.heap.size, 5, none⟩ = some (.int .i64 e) ∧ w'.cell? ⟨w.heap.size, 6, none⟩ = some (.bool t) ∧ w'.cell? ⟨w.heap.size, 7, none⟩ = some (.int .i64 l) ∧ w'.cell? ⟨w.heap.size, 8, none⟩ = some (.int .i64 q) ∧ w.heap.size + 2 ≤ w'.heap.size) (first | (refine key'.out _ _ ?_; assumption) | (simp [*, World.cell?_alloc_lt, World.cell?_alloc_some, World.cell?_setCell_far])) (first | (go_at_call 54; refine (period_any a i p b c e t l q _).mono ?_; rintro e w' ⟨rfl, rfl⟩))
  go_wp2
  refine bodyPost_ret (v := .agg #[.int .i64 a, .int .i64 reg, .slice (some ⟨w.heap.size + 3, 0, none⟩) 1 1, .int .i64 0]) ?_ rfl ?_
  · exact results_cell_row (fn := Try.f67) (p := 4) (ty := 31) rfl _ _ (w.heap.size + 1) 31 #[.int .i64 a, .int .i64 reg, .slice (some ⟨w.heap.size + 3, 0, none⟩) 1 1, .int .i64 0] (0, 0) _ rfl (heap4_1 _ _ _ _ _) Try.underlying31 rfl hi
  · exact ⟨rfl, (((((Below.refl _ _).alloc (Nat.le_refl _) _).alloc (by simp <;> omega) _).alloc (by simp <;> omega) _).alloc (by simp <;> omega) _).drew, heap4_3 _ _ _ _ _⟩
end Go.Proofs.Ytnlmbejkemkkoaa.Dr
