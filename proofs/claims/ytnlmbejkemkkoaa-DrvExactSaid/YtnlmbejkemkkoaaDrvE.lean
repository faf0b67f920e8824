/-
  Walks of drv.Next, in the states that have no transaction.
  No conditions.
-/
import Derived.Test.YtnlmbejkemkkoaaDrvD
import Derived.Laws.EntriesVeiled
import Derived.Deep.DeepCutAuto
import Derived.Deep.CutBlock
namespace Go.Proofs.Ytnlmbejkemkkoaa.Dr
open Go.RowKit
set_option linter.unusedSimpArgs false
set_option linter.unusedVariables false
set_option maxHeartbeats 4000000 in
set_option maxRecDepth 100000 in
theorem next_none0 (a i : Int) (p : Bool) (b e : Int) (t : Bool) (l q : Int) (w : World) (hg : goodD a i b 0 e l q = true) : Calls Try.prog 9 #[.agg #[.int .i64 a, .int .i64 i, .bool p, .int .i64 b, .int .i64 0, .int .i64 e, .bool t, .int .i64 l, .int .i64 q]] w (NextP w 0 0 [] 0 false 0) := by
  have hi : (Try.prog.info? 31).map (·.size) = some 4 := by kernel_rfl
  go_enter Try.func9, Try.ntmps9
  go_wp2_with (first | (go_at_call 32; refine (Good_any a i p b 0 e t l q _).mono ?_; rintro e' w' ⟨rfl, rfl⟩; rw [hg]))
  have keyA : ∀ (W : World) (o : Obj), (fun w' => w'.cell? ⟨w.heap.size, 0, none⟩ = some (.int .i64 a) ∧ w'.cell? ⟨w.heap.size, 1, none⟩ = some (.int .i64 i) ∧ w'.cell? ⟨w.heap.size, 2, none⟩ = some (.bool p) ∧ w'.cell? ⟨w.heap.size, 3, none⟩ = some (.int .i64 b) ∧ w'.cell? ⟨w.heap.size, 4, none⟩ = some (.int .i64 0) ∧ w'.cell? ⟨w.heap.size, 5, none⟩ = some (.int .i64 e) ∧ w'.cell? ⟨w.heap.size, 6, none⟩ = some (.bool t) ∧ w'.cell? ⟨w.heap.size, 7, none⟩ = some (.int .i64 l) ∧ w'.cell? ⟨w.heap.size, 8, none⟩ = some (.int .i64 q) ∧ w.heap.size + 2 ≤ w'.heap.size) W → (fun w' => w'.cell? ⟨w.heap.size, 0, none⟩ = some (.int .i64 a) ∧ w'.cell? ⟨w.heap.size, 1, none⟩ = some (.int .i64 i) ∧ w'.cell? ⟨w.heap.size, 2, none⟩ = some (.bool p) ∧ w'.cell? ⟨w.heap.size, 3, none⟩ = some (.int .i64 b) ∧ w'.cell? ⟨w.heap.size, 4, none⟩ = some (.int .i64 0) ∧ w'.cell? ⟨w.heap.size, 5, none⟩ = some (.int .i64 e) ∧ w'.cell? ⟨w.heap.size, 6, none⟩ = some (.bool t) ∧ w'.cell? ⟨w.heap.size, 7, none⟩ = some (.int .i64 l) ∧ w'.cell? ⟨w.heap.size, 8, none⟩ = some (.int .i64 q) ∧ w.heap.size + 2 ≤ w'.heap.size) (W.alloc o) := by
    intro W o h
    have hd : ∀ j : Nat, (W.alloc o).cell? ⟨w.heap.size, j, none⟩ = W.cell? ⟨w.heap.size, j, none⟩ := fun j => World.cell?_alloc_lt _ _ _ (Nat.lt_of_lt_of_le (by show w.heap.size < w.heap.size + 2; omega) h.2.2.2.2.2.2.2.2.2)
    refine ⟨(hd 0).trans h.1, (hd 1).trans h.2.1, (hd 2).trans h.2.2.1, (hd 3).trans h.2.2.2.1, (hd 4).trans h.2.2.2.2.1, (hd 5).trans h.2.2.2.2.2.1, (hd 6).trans h.2.2.2.2.2.2.1, (hd 7).trans h.2.2.2.2.2.2.2.1, (hd 8).trans h.2.2.2.2.2.2.2.2.1, Nat.le_trans h.2.2.2.2.2.2.2.2.2 (by rw [World.size_alloc]; omega)⟩
  have keyE : ∀ (W W2 : World), Below W.heap.size W W2 → (fun w' => w'.cell? ⟨w.heap.size, 0, none⟩ = some (.int .i64 a) ∧ w'.cell? ⟨w.heap.size, 1, none⟩ = some (.int .i64 i) ∧ w'.cell? ⟨w.heap.size, 2, none⟩ = some (.bool p) ∧ w'.cell? ⟨w.heap.size, 3, none⟩ = some (.int .i64 b) ∧ w'.cell? ⟨w.heap.size, 4, none⟩ = some (.int .i64 0) ∧ w'.cell? ⟨w.heap.size, 5, none⟩ = some (.int .i64 e) ∧ w'.cell? ⟨w.heap.size, 6, none⟩ = some (.bool t) ∧ w'.cell? ⟨w.heap.size, 7, none⟩ = some (.int .i64 l) ∧ w'.cell? ⟨w.heap.size, 8, none⟩ = some (.int .i64 q) ∧ w.heap.size + 2 ≤ w'.heap.size) W → (fun w' => w'.cell? ⟨w.heap.size, 0, none⟩ = some (.int .i64 a) ∧ w'.cell? ⟨w.heap.size, 1, none⟩ = some (.int .i64 i) ∧ w'.cell? ⟨w.heap.size, 2, none⟩ = some (.bool p) ∧ w'.cell? ⟨w.heap.size, 3, none⟩ = some (.int .i64 b) ∧ w'.cell? ⟨w.heap.size, 4, none⟩ = some (.int .i64 0) ∧ w'.cell? ⟨w.heap.size, 5, none⟩ = some (.int .i64 e) ∧ w'.cell? ⟨w.heap.size, 6, none⟩ = some (.bool t) ∧ w'.cell? ⟨w.heap.size, 7, none⟩ = some (.int .i64 l) ∧ w'.cell? ⟨w.heap.size, 8, none⟩ = some (.int .i64 q) ∧ w.heap.size + 2 ≤ w'.heap.size) W2 := by
    intro W W2 hb h
    have hd : ∀ j : Nat, W2.cell? ⟨w.heap.size, j, none⟩ = W.cell? ⟨w.heap.size, j, none⟩ := fun j => hb.cell (Nat.lt_of_lt_of_le (by show w.heap.size < w.heap.size + 2; omega) h.2.2.2.2.2.2.2.2.2)
    exact ⟨(hd 0).trans h.1, (hd 1).trans h.2.1, (hd 2).trans h.2.2.1, (hd 3).trans h.2.2.2.1, (hd 4).trans h.2.2.2.2.1, (hd 5).trans h.2.2.2.2.2.1, (hd 6).trans h.2.2.2.2.2.2.1, (hd 7).trans h.2.2.2.2.2.2.2.1, (hd 8).trans h.2.2.2.2.2.2.2.2.1, Nat.le_trans h.2.2.2.2.2.2.2.2.2 hb.size⟩
  have keyC : ∀ (W : World) (pa : Addr) (v : Value), pa.block ≠ w.heap.size → (fun w' => w'.cell? ⟨w.heap.size, 0, none⟩ = some (.int .i64 a) ∧ w'.cell? ⟨w.heap.size, 1, none⟩ = some (.int .i64 i) ∧ w'.cell? ⟨w.heap.size, 2, none⟩ = some (.bool p) ∧ w'.cell? ⟨w.heap.size, 3, none⟩ = some (.int .i64 b) ∧ w'.cell? ⟨w.heap.size, 4, none⟩ = some (.int .i64 0) ∧ w'.cell? ⟨w.heap.size, 5, none⟩ = some (.int .i64 e) ∧ w'.cell? ⟨w.heap.size, 6, none⟩ = some (.bool t) ∧ w'.cell? ⟨w.heap.size, 7, none⟩ = some (.int .i64 l) ∧ w'.cell? ⟨w.heap.size, 8, none⟩ = some (.int .i64 q) ∧ w.heap.size + 2 ≤ w'.heap.size) W → (fun w' => w'.cell? ⟨w.heap.size, 0, none⟩ = some (.int .i64 a) ∧ w'.cell? ⟨w.heap.size, 1, none⟩ = some (.int .i64 i) ∧ w'.cell? ⟨w.heap.size, 2, none⟩ = some (.bool p) ∧ w'.cell? ⟨w.heap.size, 3, none⟩ = some (.int .i64 b) ∧ w'.cell? ⟨w.heap.size, 4, none⟩ = some (.int .i64 0) ∧ w'.cell? ⟨w.heap.size, 5, none⟩ = some (.int .i64 e) ∧ w'.cell? ⟨w.heap.size, 6, none⟩ = some (.bool t) ∧ w'.cell? ⟨w.heap.size, 7, none⟩ = some (.int .i64 l) ∧ w'.cell? ⟨w.heap.size, 8, none⟩ = some (.int .i64 q) ∧ w.heap.size + 2 ≤ w'.heap.size) (W.setCell pa v) := by
    intro W pa v hp h
    have hd : ∀ j : Nat, (W.setCell pa v).cell? ⟨w.heap.size, j, none⟩ = W.cell? ⟨w.heap.size, j, none⟩ := fun j => World.cell?_setCell_far _ _ _ _ hp
    exact ⟨(hd 0).trans h.1, (hd 1).trans h.2.1, (hd 2).trans h.2.2.1, (hd 3).trans h.2.2.2.1, (hd 4).trans h.2.2.2.2.1, (hd 5).trans h.2.2.2.2.2.1, (hd 6).trans h.2.2.2.2.2.2.1, (hd 7).trans h.2.2.2.2.2.2.2.1, (hd 8).trans h.2.2.2.2.2.2.2.2.1, Nat.le_trans h.2.2.2.2.2.2.2.2.2 (by simp [World.setCell])⟩
  have keyC' := Lib.hid keyC
  clear keyC
  have keyA' := Lib.hid keyA
  have keyE' := Lib.hid keyE
  clear keyA keyE
  go_cut [3, 5] (fun v3 v5 wc => ∃ b2 n2 : Nat, v3 = .bool false ∧ v5 = .pointer (some ⟨b2, 0, none⟩) ∧ NextAt w wc a i p b 0 e t l q .nilFunc .nilFunc b2 n2)
  case first =>
    go_region_held3 (fun w' => w'.cell? ⟨w.heap.size, 0, none⟩ = some (.int .i64 a) ∧ w'.cell? ⟨w.heap.size, 1, none⟩ = some (.int .i64 i) ∧ w'.cell? ⟨w.heap.size, 2, none⟩ = some (.bool p) ∧ w'.cell? ⟨w.heap.size, 3, none⟩ = some (.int .i64 b) ∧ w'.cell? ⟨w.heap.size, 4, none⟩ = some (.int .i64 0) ∧ w'.cell? ⟨w.heap.size, 5, none⟩ = some (.int .i64 e) ∧ w'.cell? ⟨w.heap.size, 6, none⟩ = some (.bool t) ∧ w'.cell? ⟨w.heap.size, 7, none⟩ = some (.int .i64 l) ∧ w'.cell? ⟨w.heap.size, 8, none⟩ = some (.int .i64 q) ∧ w.heap.size + 2 ≤ w'.heap.size) (first | ((with_reducible refine keyA'.out _ _ ?_); with_reducible assumption) | ((with_reducible refine keyE'.out _ _ (by with_reducible assumption) ?_); with_reducible assumption) | (((with_reducible refine keyC'.out _ _ _ (by simp <;> omega) ?_); (with_reducible refine keyC'.out _ _ _ (by simp <;> omega) ?_)); with_reducible assumption) | (simp [*, World.cell?_alloc_lt, World.cell?_alloc_some, World.cell?_setCell_far])) (first | (go_at_call 33; ((with_reducible refine (table_tab _).mono ?_); rintro e' w2 ⟨n2, ht, rfl⟩; have hS2 := keyE'.out _ _ ht.below (by with_reducible assumption); have hc2 := fun b o h => ht.below.cell (p := ⟨b, o, none⟩) h; have hf2 := fun b o h => ht.below.frozen (p := ⟨b, o, none⟩) h; have hlk : (Instr.lookup 85 (.map (some (n2 + 1))) (.int .i64 0) true).run Try.prog w2 = .ok (.tuple #[.agg #[.nilFunc, .nilFunc], .bool false]) w2 := look_none ht.map 0 true rfl; have hlk2 : ∀ o : Obj, (Instr.lookup 85 (.map (some (n2 + 1))) (.int .i64 0) true).run Try.prog (w2.alloc o) = .ok (.tuple #[.agg #[.nilFunc, .nilFunc], .bool false]) (w2.alloc o) := fun o => look_none (heap_keep ht.map o) 0 true rfl)))
    all_goals go_wp2
    all_goals go_meet
    all_goals (have hsz2 := ht.size)
    all_goals (simp at hsz2)
    all_goals first
      | exact ⟨w2.heap.size, n2, rfl, rfl, nextAt_alloc hS2 ((ht.below.block _ (by simp <;> omega)).trans (heap3_1 _ _ _ _)) (((((Below.refl _ _).alloc (Nat.le_refl _) _).alloc (by simp <;> omega) _).alloc (by simp <;> omega) _).drew.trans (ht.below.mono (by simp <;> omega))) ht.objs (fun i cs t h => ht.top i (objs_lt h))⟩
      | exact ⟨w.heap.size + 1 + 1 + 1, n2, rfl, rfl, nextAt_set (f0 := .nilFunc) (g0 := .nilFunc) hS2 ((ht.below.block _ (by simp <;> omega)).trans (heap4_1 _ _ _ _ _)) ((((((Below.refl _ _).alloc (Nat.le_refl _) _).alloc (by simp <;> omega) _).alloc (by simp <;> omega) _).alloc (by simp <;> omega) _).drew.trans (ht.below.mono (by simp <;> omega))) ht.objs (by omega) (by omega) ((ht.below.cell (p := ⟨w.heap.size + 1 + 1 + 1, 0, none⟩) (by simp <;> omega)).trans (cell4_3 _ _ _ _ _ _ 0)) ((ht.below.cell (p := ⟨w.heap.size + 1 + 1 + 1, 1, none⟩) (by simp <;> omega)).trans (cell4_3 _ _ _ _ _ _ 1))⟩
      | trace_state
  case rest =>
    obtain ⟨b2, n2, rfl, rfl, hS, hrow, hB, hobj, hf, hgo⟩ := hcut
    have hB' := Lib.hid hB
    have hi2 := hi
    clear hobj hgo hB hf hS
    go_wp2_with (first | (refine wpList_store_row rfl 31 (.tmp 2) (.tmp 19) rfl (w.heap.size + 1) #[.int .i64 0, .int .i64 0, .slice none 0 0, .int .i64 0] rfl rfl 31 _ hrow hi2 rfl (by simp [Value.oneCell']) ?_))
    refine bodyPost_ret (v := .tuple #[.agg #[.int .i64 0, .int .i64 0, .slice none 0 0, .int .i64 0], .bool false, .int .i64 0]) ?_ rfl ?_
    · exact results_cell_two (fn := Try.f9) (p := 2) (q := 3) (r := 4) (ty := 31) rfl _ _ (w.heap.size + 1) 31 #[.int .i64 0, .int .i64 0, .slice none 0 0, .int .i64 0] (0, 0) _ rfl (setRow_same hrow) Try.underlying31 rfl hi
    · refine ⟨_, rfl, ?_, ?_⟩
      · exact .inl ⟨rfl, rfl⟩
      · exact hB'.out.trans (setRow_below _ _ _ (by omega))
set_option maxHeartbeats 4000000 in
set_option maxRecDepth 100000 in
theorem next_none8 (a i : Int) (p : Bool) (b e : Int) (t : Bool) (l q : Int) (w : World) (hg : goodD a i b 8 e l q = true) : Calls Try.prog 9 #[.agg #[.int .i64 a, .int .i64 i, .bool p, .int .i64 b, .int .i64 8, .int .i64 e, .bool t, .int .i64 l, .int .i64 q]] w (NextP w 0 0 [] 0 false 0) := by
  have hi : (Try.prog.info? 31).map (·.size) = some 4 := by kernel_rfl
  go_enter Try.func9, Try.ntmps9
  go_wp2_with (first | (go_at_call 32; refine (Good_any a i p b 8 e t l q _).mono ?_; rintro e' w' ⟨rfl, rfl⟩; rw [hg]))
  have keyA : ∀ (W : World) (o : Obj), (fun w' => w'.cell? ⟨w.heap.size, 0, none⟩ = some (.int .i64 a) ∧ w'.cell? ⟨w.heap.size, 1, none⟩ = some (.int .i64 i) ∧ w'.cell? ⟨w.heap.size, 2, none⟩ = some (.bool p) ∧ w'.cell? ⟨w.heap.size, 3, none⟩ = some (.int .i64 b) ∧ w'.cell? ⟨w.heap.size, 4, none⟩ = some (.int .i64 8) ∧ w'.cell? ⟨w.heap.size, 5, none⟩ = some (.int .i64 e) ∧ w'.cell? ⟨w.heap.size, 6, none⟩ = some (.bool t) ∧ w'.cell? ⟨w.heap.size, 7, none⟩ = some (.int .i64 l) ∧ w'.cell? ⟨w.heap.size, 8, none⟩ = some (.int .i64 q) ∧ w.heap.size + 2 ≤ w'.heap.size) W → (fun w' => w'.cell? ⟨w.heap.size, 0, none⟩ = some (.int .i64 a) ∧ w'.cell? ⟨w.heap.size, 1, none⟩ = some (.int .i64 i) ∧ w'.cell? ⟨w.heap.size, 2, none⟩ = some (.bool p) ∧ w'.cell? ⟨w.heap.size, 3, none⟩ = some (.int .i64 b) ∧ w'.cell? ⟨w.heap.size, 4, none⟩ = some (.int .i64 8) ∧ w'.cell? ⟨w.heap.size, 5, none⟩ = some (.int .i64 e) ∧ w'.cell? ⟨w.heap.size, 6, none⟩ = some (.bool t) ∧ w'.cell? ⟨w.heap.size, 7, none⟩ = some (.int .i64 l) ∧ w'.cell? ⟨w.heap.size, 8, none⟩ = some (.int .i64 q) ∧ w.heap.size + 2 ≤ w'.heap.size) (W.alloc o) := by
    intro W o h
    have hd : ∀ j : Nat, (W.alloc o).cell? ⟨w.heap.size, j, none⟩ = W.cell? ⟨w.heap.size, j, none⟩ := fun j => World.cell?_alloc_lt _ _ _ (Nat.lt_of_lt_of_le (by show w.heap.size < w.heap.size + 2; omega) h.2.2.2.2.2.2.2.2.2)
    refine ⟨(hd 0).trans h.1, (hd 1).trans h.2.1, (hd 2).trans h.2.2.1, (hd 3).trans h.2.2.2.1, (hd 4).trans h.2.2.2.2.1, (hd 5).trans h.2.2.2.2.2.1, (hd 6).trans h.2.2.2.2.2.2.1, (hd 7).trans h.2.2.2.2.2.2.2.1, (hd 8).trans h.2.2.2.2.2.2.2.2.1, Nat.le_trans h.2.2.2.2.2.2.2.2.2 (by rw [World.size_alloc]; omega)⟩
  have keyE : ∀ (W W2 : World), Below W.heap.size W W2 → (fun w' => w'.cell? ⟨w.heap.size, 0, none⟩ = some (.int .i64 a) ∧ w'.cell? ⟨w.heap.size, 1, none⟩ = some (.int .i64 i) ∧ w'.cell? ⟨w.heap.size, 2, none⟩ = some (.bool p) ∧ w'.cell? ⟨w.heap.size, 3, none⟩ = some (.int .i64 b) ∧ w'.cell? ⟨w.heap.size, 4, none⟩ = some (.int .i64 8) ∧ w'.cell? ⟨w.heap.size, 5, none⟩ = some (.int .i64 e) ∧ w'.cell? ⟨w.heap.size, 6, none⟩ = some (.bool t) ∧ w'.cell? ⟨w.heap.size, 7, none⟩ = some (.int .i64 l) ∧ w'.cell? ⟨w.heap.size, 8, none⟩ = some (.int .i64 q) ∧ w.heap.size + 2 ≤ w'.heap.size) W → (fun w' => w'.cell? ⟨w.heap.size, 0, none⟩ = some (.int .i64 a) ∧ w'.cell? ⟨w.heap.size, 1, none⟩ = some (.int .i64 i) ∧ w'.cell? ⟨w.heap.size, 2, none⟩ = some (.bool p) ∧ w'.cell? ⟨w.heap.size, 3, none⟩ = some (.int .i64 b) ∧ w'.cell? ⟨w.heap.size, 4, none⟩ = some (.int .i64 8) ∧ w'.cell? ⟨w.heap.size, 5, none⟩ = some (.int .i64 e) ∧ w'.cell? ⟨w.heap.size, 6, none⟩ = some (.bool t) ∧ w'.cell? ⟨w.heap.size, 7, none⟩ = some (.int .i64 l) ∧ w'.cell? ⟨w.heap.size, 8, none⟩ = some (.int .i64 q) ∧ w.heap.size + 2 ≤ w'.heap.size) W2 := by
    intro W W2 hb h
    have hd : ∀ j : Nat, W2.cell? ⟨w.heap.size, j, none⟩ = W.cell? ⟨w.heap.size, j, none⟩ := fun j => hb.cell (Nat.lt_of_lt_of_le (by show w.heap.size < w.heap.size + 2; omega) h.2.2.2.2.2.2.2.2.2)
    exact ⟨(hd 0).trans h.1, (hd 1).trans h.2.1, (hd 2).trans h.2.2.1, (hd 3).trans h.2.2.2.1, (hd 4).trans h.2.2.2.2.1, (hd 5).trans h.2.2.2.2.2.1, (hd 6).trans h.2.2.2.2.2.2.1, (hd 7).trans h.2.2.2.2.2.2.2.1, (hd 8).trans h.2.2.2.2.2.2.2.2.1, Nat.le_trans h.2.2.2.2.2.2.2.2.2 hb.size⟩
  have keyC : ∀ (W : World) (pa : Addr) (v : Value), pa.block ≠ w.heap.size → (fun w' => w'.cell? ⟨w.heap.size, 0, none⟩ = some (.int .i64 a) ∧ w'.cell? ⟨w.heap.size, 1, none⟩ = some (.int .i64 i) ∧ w'.cell? ⟨w.heap.size, 2, none⟩ = some (.bool p) ∧ w'.cell? ⟨w.heap.size, 3, none⟩ = some (.int .i64 b) ∧ w'.cell? ⟨w.heap.size, 4, none⟩ = some (.int .i64 8) ∧ w'.cell? ⟨w.heap.size, 5, none⟩ = some (.int .i64 e) ∧ w'.cell? ⟨w.heap.size, 6, none⟩ = some (.bool t) ∧ w'.cell? ⟨w.heap.size, 7, none⟩ = some (.int .i64 l) ∧ w'.cell? ⟨w.heap.size, 8, none⟩ = some (.int .i64 q) ∧ w.heap.size + 2 ≤ w'.heap.size) W → (fun w' => w'.cell? ⟨w.heap.size, 0, none⟩ = some (.int .i64 a) ∧ w'.cell? ⟨w.heap.size, 1, none⟩ = some (.int .i64 i) ∧ w'.cell? ⟨w.heap.size, 2, none⟩ = some (.bool p) ∧ w'.cell? ⟨w.heap.size, 3, none⟩ = some (.int .i64 b) ∧ w'.cell? ⟨w.heap.size, 4, none⟩ = some (.int .i64 8) ∧ w'.cell? ⟨w.heap.size, 5, none⟩ = some (.int .i64 e) ∧ w'.cell? ⟨w.heap.size, 6, none⟩ = some (.bool t) ∧ w'.cell? ⟨w.heap.size, 7, none⟩ = some (.int .i64 l) ∧ w'.cell? ⟨w.heap.size, 8, none⟩ = some (.int .i64 q) ∧ w.heap.size + 2 ≤ w'.heap.size) (W.setCell pa v) := by
    intro W pa v hp h
    have hd : ∀ j : Nat, (W.setCell pa v).cell? ⟨w.heap.size, j, none⟩ = W.cell? ⟨w.heap.size, j, none⟩ := fun j => World.cell?_setCell_far _ _ _ _ hp
    exact ⟨(hd 0).trans h.1, (hd 1).trans h.2.1, (hd 2).trans h.2.2.1, (hd 3).trans h.2.2.2.1, (hd 4).trans h.2.2.2.2.1, (hd 5).trans h.2.2.2.2.2.1, (hd 6).trans h.2.2.2.2.2.2.1, (hd 7).trans h.2.2.2.2.2.2.2.1, (hd 8).trans h.2.2.2.2.2.2.2.2.1, Nat.le_trans h.2.2.2.2.2.2.2.2.2 (by simp [World.setCell])⟩
  have keyC' := Lib.hid keyC
  clear keyC
  have keyA' := Lib.hid keyA
  have keyE' := Lib.hid keyE
  clear keyA keyE
  go_cut [3, 5] (fun v3 v5 wc => ∃ b2 n2 : Nat, v3 = .bool false ∧ v5 = .pointer (some ⟨b2, 0, none⟩) ∧ NextAt w wc a i p b 8 e t l q .nilFunc .nilFunc b2 n2)
  case first =>
    go_region_held3 (fun w' => w'.cell? ⟨w.heap.size, 0, none⟩ = some (.int .i64 a) ∧ w'.cell? ⟨w.heap.size, 1, none⟩ = some (.int .i64 i) ∧ w'.cell? ⟨w.heap.size, 2, none⟩ = some (.bool p) ∧ w'.cell? ⟨w.heap.size, 3, none⟩ = some (.int .i64 b) ∧ w'.cell? ⟨w.heap.size, 4, none⟩ = some (.int .i64 8) ∧ w'.cell? ⟨w.heap.size, 5, none⟩ = some (.int .i64 e) ∧ w'.cell? ⟨w.heap.size, 6, none⟩ = some (.bool t) ∧ w'.cell? ⟨w.heap.size, 7, none⟩ = some (.int .i64 l) ∧ w'.cell? ⟨w.heap.size, 8, none⟩ = some (.int .i64 q) ∧ w.heap.size + 2 ≤ w'.heap.size) (first | ((with_reducible refine keyA'.out _ _ ?_); with_reducible assumption) | ((with_reducible refine keyE'.out _ _ (by with_reducible assumption) ?_); with_reducible assumption) | (((with_reducible refine keyC'.out _ _ _ (by simp <;> omega) ?_); (with_reducible refine keyC'.out _ _ _ (by simp <;> omega) ?_)); with_reducible assumption) | (simp [*, World.cell?_alloc_lt, World.cell?_alloc_some, World.cell?_setCell_far])) (first | (go_at_call 33; ((with_reducible refine (table_tab _).mono ?_); rintro e' w2 ⟨n2, ht, rfl⟩; have hS2 := keyE'.out _ _ ht.below (by with_reducible assumption); have hc2 := fun b o h => ht.below.cell (p := ⟨b, o, none⟩) h; have hf2 := fun b o h => ht.below.frozen (p := ⟨b, o, none⟩) h; have hlk : (Instr.lookup 85 (.map (some (n2 + 1))) (.int .i64 8) true).run Try.prog w2 = .ok (.tuple #[.agg #[.nilFunc, .nilFunc], .bool false]) w2 := look_none ht.map 8 true rfl; have hlk2 : ∀ o : Obj, (Instr.lookup 85 (.map (some (n2 + 1))) (.int .i64 8) true).run Try.prog (w2.alloc o) = .ok (.tuple #[.agg #[.nilFunc, .nilFunc], .bool false]) (w2.alloc o) := fun o => look_none (heap_keep ht.map o) 8 true rfl)))
    all_goals go_wp2
    all_goals go_meet
    all_goals (have hsz2 := ht.size)
    all_goals (simp at hsz2)
    all_goals first
      | exact ⟨w2.heap.size, n2, rfl, rfl, nextAt_alloc hS2 ((ht.below.block _ (by simp <;> omega)).trans (heap3_1 _ _ _ _)) (((((Below.refl _ _).alloc (Nat.le_refl _) _).alloc (by simp <;> omega) _).alloc (by simp <;> omega) _).drew.trans (ht.below.mono (by simp <;> omega))) ht.objs (fun i cs t h => ht.top i (objs_lt h))⟩
      | exact ⟨w.heap.size + 1 + 1 + 1, n2, rfl, rfl, nextAt_set (f0 := .nilFunc) (g0 := .nilFunc) hS2 ((ht.below.block _ (by simp <;> omega)).trans (heap4_1 _ _ _ _ _)) ((((((Below.refl _ _).alloc (Nat.le_refl _) _).alloc (by simp <;> omega) _).alloc (by simp <;> omega) _).alloc (by simp <;> omega) _).drew.trans (ht.below.mono (by simp <;> omega))) ht.objs (by omega) (by omega) ((ht.below.cell (p := ⟨w.heap.size + 1 + 1 + 1, 0, none⟩) (by simp <;> omega)).trans (cell4_3 _ _ _ _ _ _ 0)) ((ht.below.cell (p := ⟨w.heap.size + 1 + 1 + 1, 1, none⟩) (by simp <;> omega)).trans (cell4_3 _ _ _ _ _ _ 1))⟩
      | trace_state
  case rest =>
    obtain ⟨b2, n2, rfl, rfl, hS, hrow, hB, hobj, hf, hgo⟩ := hcut
    have hB' := Lib.hid hB
    have hi2 := hi
    clear hobj hgo hB hf hS
    go_wp2_with (first | (refine wpList_store_row rfl 31 (.tmp 2) (.tmp 19) rfl (w.heap.size + 1) #[.int .i64 0, .int .i64 0, .slice none 0 0, .int .i64 0] rfl rfl 31 _ hrow hi2 rfl (by simp [Value.oneCell']) ?_))
    refine bodyPost_ret (v := .tuple #[.agg #[.int .i64 0, .int .i64 0, .slice none 0 0, .int .i64 0], .bool false, .int .i64 0]) ?_ rfl ?_
    · exact results_cell_two (fn := Try.f9) (p := 2) (q := 3) (r := 4) (ty := 31) rfl _ _ (w.heap.size + 1) 31 #[.int .i64 0, .int .i64 0, .slice none 0 0, .int .i64 0] (0, 0) _ rfl (setRow_same hrow) Try.underlying31 rfl hi
    · refine ⟨_, rfl, ?_, ?_⟩
      · exact .inl ⟨rfl, rfl⟩
      · exact hB'.out.trans (setRow_below _ _ _ (by omega))
set_option maxHeartbeats 4000000 in
set_option maxRecDepth 100000 in
theorem next_bad (a i : Int) (p : Bool) (b c e : Int) (t : Bool) (l q : Int) (w : World) (hg : goodD a i b c e l q = false) : Calls Try.prog 9 #[.agg #[.int .i64 a, .int .i64 i, .bool p, .int .i64 b, .int .i64 c, .int .i64 e, .bool t, .int .i64 l, .int .i64 q]] w (NextP w 0 0 [] 0 false 1) := by
  have hi : (Try.prog.info? 31).map (·.size) = some 4 := by kernel_rfl
  go_enter Try.func9, Try.ntmps9
  go_wp2_with (first | (go_at_call 32; refine (Good_any a i p b c e t l q _).mono ?_; rintro e' w' ⟨rfl, rfl⟩; rw [hg]))
  refine bodyPost_ret (v := .tuple #[.agg #[.int .i64 0, .int .i64 0, .slice none 0 0, .int .i64 0], .bool false, .int .i64 1]) ?_ rfl ?_
  · exact results_cell_two (fn := Try.f9) (p := 2) (q := 3) (r := 4) (ty := 31) rfl _ _ (w.heap.size + 1) 31 #[.int .i64 0, .int .i64 0, .slice none 0 0, .int .i64 0] (0, 0) _ rfl (heap3_1 _ _ _ _) Try.underlying31 rfl hi
  · refine ⟨_, rfl, .inl ⟨rfl, rfl⟩, ?_⟩
    exact (((Below.refl _ _).alloc (Nat.le_refl _) _).alloc (by simp <;> omega) _).alloc (by simp <;> omega) _
end Go.Proofs.Ytnlmbejkemkkoaa.Dr
