/-
  Walks of drv.Next.
  No conditions.
-/
import Derived.Test.YtnlmbejkemkkoaaDrvC
import Derived.Laws.EntriesVeiled
import Derived.Deep.DeepCutAuto
import Derived.Deep.CutBlock
namespace Go.Proofs.Ytnlmbejkemkkoaa.Dr
open Go.RowKit
set_option linter.unusedSimpArgs false
set_option linter.unusedVariables false
theorem ext_cell (w : World) (xs : List Obj) (i : Nat) (cs : Array Value) (t : TypeId) (h : xs[i]? = some (.cells cs t (0, 0))) : (ext w xs).cell? ⟨w.heap.size + i, 0, none⟩ = cs[0]? :=
  cell_of_row _ _ 0 cs t (0, 0) (by rw [ext_heap]; exact h)
/-- The table lies in W2, where W was; its closures' cells lie from n on. -/
structure TabAt (W W2 : World) (n : Nat) : Prop where
  size : n = W.heap.size
  below : Below W.heap.size W W2
  map : W2.heap[n + 1]? = some (.map (tabRows n) 7)
  top : ∀ i, i < 20 → n + i < W2.heap.size
  objs : ∀ i cs t, (tabObjs n)[i]? = some (.cells cs t (0, 0)) → W2.cell? ⟨n + i, 0, none⟩ = cs[0]?
theorem table_tab (W : World) : Calls Try.prog 33 #[] W fun e w' => ∃ n, TabAt W w' n ∧ e = .returned (.map (some (n + 1))) :=
  (table_any W).mono fun e w' ⟨h1, h2⟩ => by
    subst h2
    refine ⟨W.heap.size, ⟨rfl, ext_below _ _, ?_, fun i hi => by rw [ext_size]; show _ < _ + 20; omega, fun i cs t h => ext_cell _ _ i cs t h⟩, h1⟩
    rw [ext_heap]
    rfl
theorem heap_keep {W : World} {k : Nat} {x : Obj} (h : W.heap[k]? = some x) (o : Obj) : (W.alloc o).heap[k]? = some x := by
  rw [heap_alloc_old _ _ (Array.getElem?_eq_some_iff.1 h).1]
  exact h
theorem look_row {W2 : World} {m : Nat} (hmap : W2.heap[m + 1]? = some (.map (tabRows m) 7)) (n : Int) (s : Nat) (val : Value) (ok : Bool) (hf : Instr.findNow (.int .i64) (.int .i64 n) (tabRows m).toList 0 = some (some (s, val))) :
    (Instr.lookup 85 (.map (some (m + 1))) (.int .i64 n) ok).run Try.prog W2 = .ok (if ok then .tuple #[val, .bool true] else val) W2 :=
  run_lookup_hit _ _ _ _ _ _ 7 n s val ok Try.underlying85 Try.underlying3 hmap hf
theorem look_none {W2 : World} {m : Nat} (hmap : W2.heap[m + 1]? = some (.map (tabRows m) 7)) (n : Int) (ok : Bool) (hf : Instr.findNow (.int .i64) (.int .i64 n) (tabRows m).toList 0 = some none) :
    (Instr.lookup 85 (.map (some (m + 1))) (.int .i64 n) ok).run Try.prog W2 = .ok (if ok then .tuple #[.agg #[.nilFunc, .nilFunc], .bool false] else .agg #[.nilFunc, .nilFunc]) W2 :=
  run_lookup_miss _ _ _ _ _ _ 7 n (.agg #[.nilFunc, .nilFunc]) ok Try.underlying85 Try.underlying3 hmap hf (by kernel_rfl)
theorem results_cell_two {P : Program} {fn : Func} {p q r : Tmp} {ty : TypeId} (h : fn.results = #[.cell p ty, .tmp q, .tmp r]) (tmps : Array Value) (w : World) (g : Nat) (t : TypeId) (cs : Array Value) (fr : Nat × Nat) (d : TypeDesc) (hp : tmps.getD p undef = .pointer (some ⟨g, 0, none⟩)) (hg : w.heap[g]? = some (.cells cs t fr)) (hu : P.underlying ty = some d) (hd : (match d with | .struct _ | .array _ _ => true | _ => false) = true) (hi : (P.info? ty).map (·.size) = some cs.size) :
    (results fn tmps).run P w = .ok (.tuple #[.agg cs, tmps.getD q undef, tmps.getD r undef]) w := by
  have hp' : tmps[p]?.getD undef = .pointer (some ⟨g, 0, none⟩) := by simpa using hp
  simp [results, h, hp', asAddr, run_loadVar_row w g t ty cs fr d hg hu hd hi]
theorem cell4_3 (w : World) (A B C : Obj) (cs : Array Value) (t : TypeId) (j : Nat) : ((((w.alloc A).alloc B).alloc C).alloc (.cells cs t)).drew.cell? ⟨w.heap.size + 1 + 1 + 1, j, none⟩ = cs[j]? :=
  cell_of_row ((((w.alloc A).alloc B).alloc C).alloc (.cells cs t)) _ j cs t (0, 0) (heap4_3 _ _ _ _ _)
def SlOk (w w' : World) (sv : Value) (l : List Int) : Prop := (sv = .slice none 0 0 ∧ l = []) ∨ ∃ k v, sv = .slice (some ⟨k, 0, none⟩) 1 1 ∧ l = [v] ∧ w.heap.size ≤ k ∧ w'.heap[k]? = some (.cells #[.int .u8 v] 5 (0, 0))
def NextP (w : World) (r1 r2 : Int) (l : List Int) (r4 : Int) (there : Bool) (er : Int) (e : Ending) (w' : World) : Prop := ∃ sv, e = .returned (.tuple #[.agg #[.int .i64 r1, .int .i64 r2, sv, .int .i64 r4], .bool there, .int .i64 er]) ∧ SlOk w w' sv l ∧ Below w.heap.size w w'
theorem setRow_below {B : Nat} (w : World) (g : Nat) (cs : Array Value) (h : B ≤ g) : Below B w (w.setRow g cs) :=
  ⟨rfl, rfl, rfl, by simp [World.setRow], fun k hk => setRow_other w g k cs (by omega)⟩
theorem setRow_same {w : World} {g : Nat} {cs old : Array Value} {t : TypeId} {fr : Nat × Nat} (h : w.heap[g]? = some (.cells old t fr)) : (w.setRow g cs).heap[g]? = some (.cells cs t fr) := setRow_heap w g old cs t fr h
theorem objs_lt {m i : Nat} {cs : Array Value} {t : TypeId} (h : (tabObjs m)[i]? = some (.cells cs t (0, 0))) : i < 20 := (List.getElem?_eq_some_iff.1 h).1
/-- The driver's variable lies at the first new block, the answer's at the second. -/
def DCells (w W : World) (a i : Int) (p : Bool) (b c e : Int) (t : Bool) (l q : Int) : Prop := W.cell? ⟨w.heap.size, 0, none⟩ = some (.int .i64 a) ∧ W.cell? ⟨w.heap.size, 1, none⟩ = some (.int .i64 i) ∧ W.cell? ⟨w.heap.size, 2, none⟩ = some (.bool p) ∧ W.cell? ⟨w.heap.size, 3, none⟩ = some (.int .i64 b) ∧ W.cell? ⟨w.heap.size, 4, none⟩ = some (.int .i64 c) ∧ W.cell? ⟨w.heap.size, 5, none⟩ = some (.int .i64 e) ∧ W.cell? ⟨w.heap.size, 6, none⟩ = some (.bool t) ∧ W.cell? ⟨w.heap.size, 7, none⟩ = some (.int .i64 l) ∧ W.cell? ⟨w.heap.size, 8, none⟩ = some (.int .i64 q) ∧ w.heap.size + 2 ≤ W.heap.size
def NextAt (w W : World) (a i : Int) (p : Bool) (b c e : Int) (t : Bool) (l q : Int) (f g : Value) (b2 n2 : Nat) : Prop := DCells w W a i p b c e t l q ∧ W.heap[w.heap.size + 1]? = some (.cells #[.int .i64 0, .int .i64 0, .slice none 0 0, .int .i64 0] 31 (0, 0)) ∧ Below w.heap.size w W ∧
  (∀ i cs t, (tabObjs n2)[i]? = some (.cells cs t (0, 0)) → W.cell? ⟨n2 + i, 0, none⟩ = cs[0]?) ∧ W.cell? ⟨b2, 0, none⟩ = some f ∧ W.cell? ⟨b2, 1, none⟩ = some g
theorem DCells.keep {w W W2 : World} {a i : Int} {p : Bool} {b c e : Int} {t : Bool} {l q : Int} (h : DCells w W a i p b c e t l q) (hs : W.heap.size ≤ W2.heap.size) (hk : ∀ j : Nat, W2.cell? ⟨w.heap.size, j, none⟩ = W.cell? ⟨w.heap.size, j, none⟩) : DCells w W2 a i p b c e t l q := by
  unfold DCells at *
  simp only [hk]
  exact ⟨h.1, h.2.1, h.2.2.1, h.2.2.2.1, h.2.2.2.2.1, h.2.2.2.2.2.1, h.2.2.2.2.2.2.1, h.2.2.2.2.2.2.2.1, h.2.2.2.2.2.2.2.2.1, Nat.le_trans h.2.2.2.2.2.2.2.2.2 hs⟩
theorem DCells.size {w W : World} {a i : Int} {p : Bool} {b c e : Int} {t : Bool} {l q : Int} (h : DCells w W a i p b c e t l q) : w.heap.size + 2 ≤ W.heap.size := h.2.2.2.2.2.2.2.2.2
theorem nextAt_alloc {w W : World} {a i : Int} {p : Bool} {b c e : Int} {t : Bool} {l q : Int} {f g : Value} {n2 : Nat} {tt : TypeId} (hS : DCells w W a i p b c e t l q) (h2 : W.heap[w.heap.size + 1]? = some (.cells #[.int .i64 0, .int .i64 0, .slice none 0 0, .int .i64 0] 31 (0, 0))) (hb : Below w.heap.size w W)
    (h4 : ∀ i cs t, (tabObjs n2)[i]? = some (.cells cs t (0, 0)) → W.cell? ⟨n2 + i, 0, none⟩ = cs[0]?) (hlt : ∀ i cs t, (tabObjs n2)[i]? = some (.cells cs t (0, 0)) → n2 + i < W.heap.size) : NextAt w (W.alloc (.cells #[f, g] tt)) a i p b c e t l q f g W.heap.size n2 := by
  have hsz := hS.size
  refine ⟨hS.keep (by simp) (fun j => World.cell?_alloc_lt _ _ _ (by show w.heap.size < _; omega)), heap_keep h2 _, hb.alloc hb.size _, fun i cs t h => ?_, ?_, ?_⟩
  · rw [World.cell?_alloc_lt _ _ _ (hlt i cs t h)]
    exact h4 i cs t h
  · rw [World.cell?_alloc_new]; rfl
  · rw [World.cell?_alloc_new]; rfl
theorem nextAt_set {w W : World} {a i : Int} {p : Bool} {b c e : Int} {t : Bool} {l q : Int} {f g f0 g0 : Value} {b2 n2 : Nat} (hS : DCells w W a i p b c e t l q) (h2 : W.heap[w.heap.size + 1]? = some (.cells #[.int .i64 0, .int .i64 0, .slice none 0 0, .int .i64 0] 31 (0, 0))) (hb : Below w.heap.size w W)
    (h4 : ∀ i cs t, (tabObjs n2)[i]? = some (.cells cs t (0, 0)) → W.cell? ⟨n2 + i, 0, none⟩ = cs[0]?) (hb2 : w.heap.size + 2 ≤ b2) (hn : b2 < n2) (hf : W.cell? ⟨b2, 0, none⟩ = some f0) (hg : W.cell? ⟨b2, 1, none⟩ = some g0) : NextAt w ((W.setCell ⟨b2, 0, none⟩ f).setCell ⟨b2, 1, none⟩ g) a i p b c e t l q f g b2 n2 := by
  have hc : ∀ k j : Nat, k ≠ b2 → ((W.setCell ⟨b2, 0, none⟩ f).setCell ⟨b2, 1, none⟩ g).cell? ⟨k, j, none⟩ = W.cell? ⟨k, j, none⟩ := fun k j hk => by
    rw [World.cell?_setCell_far _ _ _ _ (show b2 ≠ k from Ne.symm hk), World.cell?_setCell_far _ _ _ _ (show b2 ≠ k from Ne.symm hk)]
  refine ⟨hS.keep (by simp [World.setCell]) (fun j => hc _ j (by omega)), ?_, (hb.setCell (by show w.heap.size ≤ b2; omega) _).setCell (by show w.heap.size ≤ b2; omega) _, fun i cs t h => ?_, ?_, ?_⟩
  · rw [Below.heap_setCell _ _ _ _ (by show w.heap.size + 1 ≠ b2; omega), Below.heap_setCell _ _ _ _ (by show w.heap.size + 1 ≠ b2; omega)]
    exact h2
  · rw [hc _ _ (by omega)]
    exact h4 i cs t h
  · rw [World.cell?_setCell_other _ _ _ _ (by simp)]
    exact World.cell?_setCell_same _ _ _ hf
  · refine World.cell?_setCell_same (u := g0) _ _ _ ?_
    rw [World.cell?_setCell_other _ _ _ _ (by simp)]
    exact hg
set_option maxHeartbeats 4000000 in
set_option maxRecDepth 100000 in
theorem next_1 (a i : Int) (p : Bool) (b e : Int) (t : Bool) (l q : Int) (w : World) (hg : goodD a i b 1 e l q = true) : Calls Try.prog 9 #[.agg #[.int .i64 a, .int .i64 i, .bool p, .int .i64 b, .int .i64 1, .int .i64 e, .bool t, .int .i64 l, .int .i64 q]] w (NextP w a 0 [] 1 true 0) := by
  have hi : (Try.prog.info? 31).map (·.size) = some 4 := by kernel_rfl
  go_enter Try.func9, Try.ntmps9
  go_wp2_with (first | (go_at_call 32; refine (Good_any a i p b 1 e t l q _).mono ?_; rintro e' w' ⟨rfl, rfl⟩; rw [hg]))
  have keyA : ∀ (W : World) (o : Obj), (fun w' => w'.cell? ⟨w.heap.size, 0, none⟩ = some (.int .i64 a) ∧ w'.cell? ⟨w.heap.size, 1, none⟩ = some (.int .i64 i) ∧ w'.cell? ⟨w.heap.size, 2, none⟩ = some (.bool p) ∧ w'.cell? ⟨w.heap.size, 3, none⟩ = some (.int .i64 b) ∧ w'.cell? ⟨w.heap.size, 4, none⟩ = some (.int .i64 1) ∧ w'.cell? ⟨w.heap.size, 5, none⟩ = some (.int .i64 e) ∧ w'.cell? ⟨w.heap.size, 6, none⟩ = some (.bool t) ∧ w'.cell? ⟨w.heap.size, 7, none⟩ = some (.int .i64 l) ∧ w'.cell? ⟨w.heap.size, 8, none⟩ = some (.int .i64 q) ∧ w.heap.size + 2 ≤ w'.heap.size) W → (fun w' => w'.cell? ⟨w.heap.size, 0, none⟩ = some (.int .i64 a) ∧ w'.cell? ⟨w.heap.size, 1, none⟩ = some (.int .i64 i) ∧ w'.cell? ⟨w.heap.size, 2, none⟩ = some (.bool p) ∧ w'.cell? ⟨w.heap.size, 3, none⟩ = some (.int .i64 b) ∧ w'.cell? ⟨w.heap.size, 4, none⟩ = some (.int .i64 1) ∧ w'.cell? ⟨w.heap.size, 5, none⟩ = some (.int .i64 e) ∧ w'.cell? ⟨w.heap.size, 6, none⟩ = some (.bool t) ∧ w'.cell? ⟨w.heap.size, 7, none⟩ = some (.int .i64 l) ∧ w'.cell? ⟨w.heap.size, 8, none⟩ = some (.int .i64 q) ∧ w.heap.size + 2 ≤ w'.heap.size) (W.alloc o) := by
    intro W o h
    have hd : ∀ j : Nat, (W.alloc o).cell? ⟨w.heap.size, j, none⟩ = W.cell? ⟨w.heap.size, j, none⟩ := fun j => World.cell?_alloc_lt _ _ _ (Nat.lt_of_lt_of_le (by show w.heap.size < w.heap.size + 2; omega) h.2.2.2.2.2.2.2.2.2)
    refine ⟨(hd 0).trans h.1, (hd 1).trans h.2.1, (hd 2).trans h.2.2.1, (hd 3).trans h.2.2.2.1, (hd 4).trans h.2.2.2.2.1, (hd 5).trans h.2.2.2.2.2.1, (hd 6).trans h.2.2.2.2.2.2.1, (hd 7).trans h.2.2.2.2.2.2.2.1, (hd 8).trans h.2.2.2.2.2.2.2.2.1, Nat.le_trans h.2.2.2.2.2.2.2.2.2 (by rw [World.size_alloc]; omega)⟩
  have keyE : ∀ (W W2 : World), Below W.heap.size W W2 → (fun w' => w'.cell? ⟨w.heap.size, 0, none⟩ = some (.int .i64 a) ∧ w'.cell? ⟨w.heap.size, 1, none⟩ = some (.int .i64 i) ∧ w'.cell? ⟨w.heap.size, 2, none⟩ = some (.bool p) ∧ w'.cell? ⟨w.heap.size, 3, none⟩ = some (.int .i64 b) ∧ w'.cell? ⟨w.heap.size, 4, none⟩ = some (.int .i64 1) ∧ w'.cell? ⟨w.heap.size, 5, none⟩ = some (.int .i64 e) ∧ w'.cell? ⟨w.heap.size, 6, none⟩ = some (.bool t) ∧ w'.cell? ⟨w.heap.size, 7, none⟩ = some (.int .i64 l) ∧ w'.cell? ⟨w.heap.size, 8, none⟩ = some (.int .i64 q) ∧ w.heap.size + 2 ≤ w'.heap.size) W → (fun w' => w'.cell? ⟨w.heap.size, 0, none⟩ = some (.int .i64 a) ∧ w'.cell? ⟨w.heap.size, 1, none⟩ = some (.int .i64 i) ∧ w'.cell? ⟨w.heap.size, 2, none⟩ = some (.bool p) ∧ w'.cell? ⟨w.heap.size, 3, none⟩ = some (.int .i64 b) ∧ w'.cell? ⟨w.heap.size, 4, none⟩ = some (.int .i64 1) ∧ w'.cell? ⟨w.heap.size, 5, none⟩ = some (.int .i64 e) ∧ w'.cell? ⟨w.heap.size, 6, none⟩ = some (.bool t) ∧ w'.cell? ⟨w.heap.size, 7, none⟩ = some (.int .i64 l) ∧ w'.cell? ⟨w.heap.size, 8, none⟩ = some (.int .i64 q) ∧ w.heap.size + 2 ≤ w'.heap.size) W2 := by
    intro W W2 hb h
    have hd : ∀ j : Nat, W2.cell? ⟨w.heap.size, j, none⟩ = W.cell? ⟨w.heap.size, j, none⟩ := fun j => hb.cell (Nat.lt_of_lt_of_le (by show w.heap.size < w.heap.size + 2; omega) h.2.2.2.2.2.2.2.2.2)
    exact ⟨(hd 0).trans h.1, (hd 1).trans h.2.1, (hd 2).trans h.2.2.1, (hd 3).trans h.2.2.2.1, (hd 4).trans h.2.2.2.2.1, (hd 5).trans h.2.2.2.2.2.1, (hd 6).trans h.2.2.2.2.2.2.1, (hd 7).trans h.2.2.2.2.2.2.2.1, (hd 8).trans h.2.2.2.2.2.2.2.2.1, Nat.le_trans h.2.2.2.2.2.2.2.2.2 hb.size⟩
  have keyC : ∀ (W : World) (pa : Addr) (v : Value), pa.block ≠ w.heap.size → (fun w' => w'.cell? ⟨w.heap.size, 0, none⟩ = some (.int .i64 a) ∧ w'.cell? ⟨w.heap.size, 1, none⟩ = some (.int .i64 i) ∧ w'.cell? ⟨w.heap.size, 2, none⟩ = some (.bool p) ∧ w'.cell? ⟨w.heap.size, 3, none⟩ = some (.int .i64 b) ∧ w'.cell? ⟨w.heap.size, 4, none⟩ = some (.int .i64 1) ∧ w'.cell? ⟨w.heap.size, 5, none⟩ = some (.int .i64 e) ∧ w'.cell? ⟨w.heap.size, 6, none⟩ = some (.bool t) ∧ w'.cell? ⟨w.heap.size, 7, none⟩ = some (.int .i64 l) ∧ w'.cell? ⟨w.heap.size, 8, none⟩ = some (.int .i64 q) ∧ w.heap.size + 2 ≤ w'.heap.size) W → (fun w' => w'.cell? ⟨w.heap.size, 0, none⟩ = some (.int .i64 a) ∧ w'.cell? ⟨w.heap.size, 1, none⟩ = some (.int .i64 i) ∧ w'.cell? ⟨w.heap.size, 2, none⟩ = some (.bool p) ∧ w'.cell? ⟨w.heap.size, 3, none⟩ = some (.int .i64 b) ∧ w'.cell? ⟨w.heap.size, 4, none⟩ = some (.int .i64 1) ∧ w'.cell? ⟨w.heap.size, 5, none⟩ = some (.int .i64 e) ∧ w'.cell? ⟨w.heap.size, 6, none⟩ = some (.bool t) ∧ w'.cell? ⟨w.heap.size, 7, none⟩ = some (.int .i64 l) ∧ w'.cell? ⟨w.heap.size, 8, none⟩ = some (.int .i64 q) ∧ w.heap.size + 2 ≤ w'.heap.size) (W.setCell pa v) := by
    intro W pa v hp h
    have hd : ∀ j : Nat, (W.setCell pa v).cell? ⟨w.heap.size, j, none⟩ = W.cell? ⟨w.heap.size, j, none⟩ := fun j => World.cell?_setCell_far _ _ _ _ hp
    exact ⟨(hd 0).trans h.1, (hd 1).trans h.2.1, (hd 2).trans h.2.2.1, (hd 3).trans h.2.2.2.1, (hd 4).trans h.2.2.2.2.1, (hd 5).trans h.2.2.2.2.2.1, (hd 6).trans h.2.2.2.2.2.2.1, (hd 7).trans h.2.2.2.2.2.2.2.1, (hd 8).trans h.2.2.2.2.2.2.2.2.1, Nat.le_trans h.2.2.2.2.2.2.2.2.2 (by simp [World.setCell])⟩
  have keyC' := Lib.hid keyC
  clear keyC
  have keyA' := Lib.hid keyA
  have keyE' := Lib.hid keyE
  clear keyA keyE
  go_cut [3, 5] (fun v3 v5 wc => ∃ b2 n2 : Nat, v3 = .bool true ∧ v5 = .pointer (some ⟨b2, 0, none⟩) ∧ NextAt w wc a i p b 1 e t l q (.func (.func 66) #[] #[.pointer (some ⟨n2 + 2, 0, none⟩), .pointer (some ⟨n2 + 3, 0, none⟩)]) (.func (.func 52) #[] #[]) b2 n2)
  case first =>
    go_region_held3 (fun w' => w'.cell? ⟨w.heap.size, 0, none⟩ = some (.int .i64 a) ∧ w'.cell? ⟨w.heap.size, 1, none⟩ = some (.int .i64 i) ∧ w'.cell? ⟨w.heap.size, 2, none⟩ = some (.bool p) ∧ w'.cell? ⟨w.heap.size, 3, none⟩ = some (.int .i64 b) ∧ w'.cell? ⟨w.heap.size, 4, none⟩ = some (.int .i64 1) ∧ w'.cell? ⟨w.heap.size, 5, none⟩ = some (.int .i64 e) ∧ w'.cell? ⟨w.heap.size, 6, none⟩ = some (.bool t) ∧ w'.cell? ⟨w.heap.size, 7, none⟩ = some (.int .i64 l) ∧ w'.cell? ⟨w.heap.size, 8, none⟩ = some (.int .i64 q) ∧ w.heap.size + 2 ≤ w'.heap.size) (first | ((with_reducible refine keyA'.out _ _ ?_); with_reducible assumption) | ((with_reducible refine keyE'.out _ _ (by with_reducible assumption) ?_); with_reducible assumption) | (((with_reducible refine keyC'.out _ _ _ (by simp <;> omega) ?_); (with_reducible refine keyC'.out _ _ _ (by simp <;> omega) ?_)); with_reducible assumption) | (simp [*, World.cell?_alloc_lt, World.cell?_alloc_some, World.cell?_setCell_far])) (first | (go_at_call 33; ((with_reducible refine (table_tab _).mono ?_); rintro e' w2 ⟨n2, ht, rfl⟩; have hS2 := keyE'.out _ _ ht.below (by with_reducible assumption); have hc2 := fun b o h => ht.below.cell (p := ⟨b, o, none⟩) h; have hf2 := fun b o h => ht.below.frozen (p := ⟨b, o, none⟩) h; have hlk : (Instr.lookup 85 (.map (some (n2 + 1))) (.int .i64 1) true).run Try.prog w2 = .ok (.tuple #[.agg #[.func (.func 66) #[] #[.pointer (some ⟨n2 + 2, 0, none⟩), .pointer (some ⟨n2 + 3, 0, none⟩)], .func (.func 52) #[] #[]], .bool true]) w2 := look_row ht.map 1 0 _ true rfl; have hlk2 : ∀ o : Obj, (Instr.lookup 85 (.map (some (n2 + 1))) (.int .i64 1) true).run Try.prog (w2.alloc o) = .ok (.tuple #[.agg #[.func (.func 66) #[] #[.pointer (some ⟨n2 + 2, 0, none⟩), .pointer (some ⟨n2 + 3, 0, none⟩)], .func (.func 52) #[] #[]], .bool true]) (w2.alloc o) := fun o => look_row (heap_keep ht.map o) 1 0 _ true rfl)))
    all_goals go_wp2
    all_goals go_meet
    all_goals (have hsz2 := ht.size)
    all_goals (simp at hsz2)
    all_goals first
      | exact ⟨w2.heap.size, n2, rfl, rfl, nextAt_alloc hS2 ((ht.below.block _ (by simp <;> omega)).trans (heap3_1 _ _ _ _)) (((((Below.refl _ _).alloc (Nat.le_refl _) _).alloc (by simp <;> omega) _).alloc (by simp <;> omega) _).drew.trans (ht.below.mono (by simp <;> omega))) ht.objs (fun i cs t h => ht.top i (objs_lt h))⟩
      | exact ⟨w.heap.size + 1 + 1 + 1, n2, rfl, rfl, nextAt_set (f0 := .nilFunc) (g0 := .nilFunc) hS2 ((ht.below.block _ (by simp <;> omega)).trans (heap4_1 _ _ _ _ _)) ((((((Below.refl _ _).alloc (Nat.le_refl _) _).alloc (by simp <;> omega) _).alloc (by simp <;> omega) _).alloc (by simp <;> omega) _).drew.trans (ht.below.mono (by simp <;> omega))) ht.objs (by omega) (by omega) ((ht.below.cell (p := ⟨w.heap.size + 1 + 1 + 1, 0, none⟩) (by simp <;> omega)).trans (cell4_3 _ _ _ _ _ _ 0)) ((ht.below.cell (p := ⟨w.heap.size + 1 + 1 + 1, 1, none⟩) (by simp <;> omega)).trans (cell4_3 _ _ _ _ _ _ 1))⟩
      | trace_state
  case rest =>
    obtain ⟨b2, n2, rfl, rfl, hS, hrow, hB, hobj, hf, hgo⟩ := hcut
    obtain ⟨s0, s1, s2, s3, s4, s5, s6, s7, s8, hsz⟩ := hS
    have hx := hobj 2 _ _ rfl
    have hy := hobj 3 _ _ rfl
    have hz := hobj 0 _ _ rfl
    have hrow' := Lib.hid hrow
    have hB' := Lib.hid hB
    clear hobj hgo hrow hB
    go_wp2_with (first | (go_at_call 66; ((with_reducible refine (read1_always ⟨n2 + 2, 0, none⟩ ⟨n2 + 3, 0, none⟩ ⟨n2 + 0, 0, none⟩ a i p b 1 e t l q 0 1 _ hx hy hz).mono ?_); rintro e' w3 ⟨rfl, hb3⟩; have hrow3 := (hb3.block _ (by omega)).trans hrow'.out; have hi2 := hi)) | (refine wpList_store_row rfl 31 (.tmp 2) (.tmp 23) rfl (w.heap.size + 1) #[.int .i64 a, .int .i64 0, .slice none 0 0, .int .i64 1] rfl rfl 31 _ hrow3 hi2 rfl (by simp [Value.oneCell']) ?_))
    refine bodyPost_ret (v := .tuple #[.agg #[.int .i64 a, .int .i64 0, .slice none 0 0, .int .i64 1], .bool true, .int .i64 0]) ?_ rfl ?_
    · exact results_cell_two (fn := Try.f9) (p := 2) (q := 3) (r := 4) (ty := 31) rfl _ _ (w.heap.size + 1) 31 #[.int .i64 a, .int .i64 0, .slice none 0 0, .int .i64 1] (0, 0) _ rfl (setRow_same hrow3) Try.underlying31 rfl hi
    · refine ⟨_, rfl, ?_, ?_⟩
      · exact .inl ⟨rfl, rfl⟩
      · exact (hB'.out.trans (hb3.mono hB'.out.size)).trans (setRow_below _ _ _ (by omega))

set_option maxHeartbeats 4000000 in
set_option maxRecDepth 100000 in
theorem next_2 (a i : Int) (p : Bool) (b e : Int) (t : Bool) (l q : Int) (w : World) (hg : goodD a i b 2 e l q = true) : Calls Try.prog 9 #[.agg #[.int .i64 a, .int .i64 i, .bool p, .int .i64 b, .int .i64 2, .int .i64 e, .bool t, .int .i64 l, .int .i64 q]] w (NextP w a 2 [(b % 256)] 0 true 0) := by
  have hi : (Try.prog.info? 31).map (·.size) = some 4 := by kernel_rfl
  go_enter Try.func9, Try.ntmps9
  go_wp2_with (first | (go_at_call 32; refine (Good_any a i p b 2 e t l q _).mono ?_; rintro e' w' ⟨rfl, rfl⟩; rw [hg]))
  have keyA : ∀ (W : World) (o : Obj), (fun w' => w'.cell? ⟨w.heap.size, 0, none⟩ = some (.int .i64 a) ∧ w'.cell? ⟨w.heap.size, 1, none⟩ = some (.int .i64 i) ∧ w'.cell? ⟨w.heap.size, 2, none⟩ = some (.bool p) ∧ w'.cell? ⟨w.heap.size, 3, none⟩ = some (.int .i64 b) ∧ w'.cell? ⟨w.heap.size, 4, none⟩ = some (.int .i64 2) ∧ w'.cell? ⟨w.heap.size, 5, none⟩ = some (.int .i64 e) ∧ w'.cell? ⟨w.heap.size, 6, none⟩ = some (.bool t) ∧ w'.cell? ⟨w.heap.size, 7, none⟩ = some (.int .i64 l) ∧ w'.cell? ⟨w.heap.size, 8, none⟩ = some (.int .i64 q) ∧ w.heap.size + 2 ≤ w'.heap.size) W → (fun w' => w'.cell? ⟨w.heap.size, 0, none⟩ = some (.int .i64 a) ∧ w'.cell? ⟨w.heap.size, 1, none⟩ = some (.int .i64 i) ∧ w'.cell? ⟨w.heap.size, 2, none⟩ = some (.bool p) ∧ w'.cell? ⟨w.heap.size, 3, none⟩ = some (.int .i64 b) ∧ w'.cell? ⟨w.heap.size, 4, none⟩ = some (.int .i64 2) ∧ w'.cell? ⟨w.heap.size, 5, none⟩ = some (.int .i64 e) ∧ w'.cell? ⟨w.heap.size, 6, none⟩ = some (.bool t) ∧ w'.cell? ⟨w.heap.size, 7, none⟩ = some (.int .i64 l) ∧ w'.cell? ⟨w.heap.size, 8, none⟩ = some (.int .i64 q) ∧ w.heap.size + 2 ≤ w'.heap.size) (W.alloc o) := by
    intro W o h
    have hd : ∀ j : Nat, (W.alloc o).cell? ⟨w.heap.size, j, none⟩ = W.cell? ⟨w.heap.size, j, none⟩ := fun j => World.cell?_alloc_lt _ _ _ (Nat.lt_of_lt_of_le (by show w.heap.size < w.heap.size + 2; omega) h.2.2.2.2.2.2.2.2.2)
    refine ⟨(hd 0).trans h.1, (hd 1).trans h.2.1, (hd 2).trans h.2.2.1, (hd 3).trans h.2.2.2.1, (hd 4).trans h.2.2.2.2.1, (hd 5).trans h.2.2.2.2.2.1, (hd 6).trans h.2.2.2.2.2.2.1, (hd 7).trans h.2.2.2.2.2.2.2.1, (hd 8).trans h.2.2.2.2.2.2.2.2.1, Nat.le_trans h.2.2.2.2.2.2.2.2.2 (by rw [World.size_alloc]; omega)⟩
  have keyE : ∀ (W W2 : World), Below W.heap.size W W2 → (fun w' => w'.cell? ⟨w.heap.size, 0, none⟩ = some (.int .i64 a) ∧ w'.cell? ⟨w.heap.size, 1, none⟩ = some (.int .i64 i) ∧ w'.cell? ⟨w.heap.size, 2, none⟩ = some (.bool p) ∧ w'.cell? ⟨w.heap.size, 3, none⟩ = some (.int .i64 b) ∧ w'.cell? ⟨w.heap.size, 4, none⟩ = some (.int .i64 2) ∧ w'.cell? ⟨w.heap.size, 5, none⟩ = some (.int .i64 e) ∧ w'.cell? ⟨w.heap.size, 6, none⟩ = some (.bool t) ∧ w'.cell? ⟨w.heap.size, 7, none⟩ = some (.int .i64 l) ∧ w'.cell? ⟨w.heap.size, 8, none⟩ = some (.int .i64 q) ∧ w.heap.size + 2 ≤ w'.heap.size) W → (fun w' => w'.cell? ⟨w.heap.size, 0, none⟩ = some (.int .i64 a) ∧ w'.cell? ⟨w.heap.size, 1, none⟩ = some (.int .i64 i) ∧ w'.cell? ⟨w.heap.size, 2, none⟩ = some (.bool p) ∧ w'.cell? ⟨w.heap.size, 3, none⟩ = some (.int .i64 b) ∧ w'.cell? ⟨w.heap.size, 4, none⟩ = some (.int .i64 2) ∧ w'.cell? ⟨w.heap.size, 5, none⟩ = some (.int .i64 e) ∧ w'.cell? ⟨w.heap.size, 6, none⟩ = some (.bool t) ∧ w'.cell? ⟨w.heap.size, 7, none⟩ = some (.int .i64 l) ∧ w'.cell? ⟨w.heap.size, 8, none⟩ = some (.int .i64 q) ∧ w.heap.size + 2 ≤ w'.heap.size) W2 := by
    intro W W2 hb h
    have hd : ∀ j : Nat, W2.cell? ⟨w.heap.size, j, none⟩ = W.cell? ⟨w.heap.size, j, none⟩ := fun j => hb.cell (Nat.lt_of_lt_of_le (by show w.heap.size < w.heap.size + 2; omega) h.2.2.2.2.2.2.2.2.2)
    exact ⟨(hd 0).trans h.1, (hd 1).trans h.2.1, (hd 2).trans h.2.2.1, (hd 3).trans h.2.2.2.1, (hd 4).trans h.2.2.2.2.1, (hd 5).trans h.2.2.2.2.2.1, (hd 6).trans h.2.2.2.2.2.2.1, (hd 7).trans h.2.2.2.2.2.2.2.1, (hd 8).trans h.2.2.2.2.2.2.2.2.1, Nat.le_trans h.2.2.2.2.2.2.2.2.2 hb.size⟩
  have keyC : ∀ (W : World) (pa : Addr) (v : Value), pa.block ≠ w.heap.size → (fun w' => w'.cell? ⟨w.heap.size, 0, none⟩ = some (.int .i64 a) ∧ w'.cell? ⟨w.heap.size, 1, none⟩ = some (.int .i64 i) ∧ w'.cell? ⟨w.heap.size, 2, none⟩ = some (.bool p) ∧ w'.cell? ⟨w.heap.size, 3, none⟩ = some (.int .i64 b) ∧ w'.cell? ⟨w.heap.size, 4, none⟩ = some (.int .i64 2) ∧ w'.cell? ⟨w.heap.size, 5, none⟩ = some (.int .i64 e) ∧ w'.cell? ⟨w.heap.size, 6, none⟩ = some (.bool t) ∧ w'.cell? ⟨w.heap.size, 7, none⟩ = some (.int .i64 l) ∧ w'.cell? ⟨w.heap.size, 8, none⟩ = some (.int .i64 q) ∧ w.heap.size + 2 ≤ w'.heap.size) W → (fun w' => w'.cell? ⟨w.heap.size, 0, none⟩ = some (.int .i64 a) ∧ w'.cell? ⟨w.heap.size, 1, none⟩ = some (.int .i64 i) ∧ w'.cell? ⟨w.heap.size, 2, none⟩ = some (.bool p) ∧ w'.cell? ⟨w.heap.size, 3, none⟩ = some (.int .i64 b) ∧ w'.cell? ⟨w.heap.size, 4, none⟩ = some (.int .i64 2) ∧ w'.cell? ⟨w.heap.size, 5, none⟩ = some (.int .i64 e) ∧ w'.cell? ⟨w.heap.size, 6, none⟩ = some (.bool t) ∧ w'.cell? ⟨w.heap.size, 7, none⟩ = some (.int .i64 l) ∧ w'.cell? ⟨w.heap.size, 8, none⟩ = some (.int .i64 q) ∧ w.heap.size + 2 ≤ w'.heap.size) (W.setCell pa v) := by
    intro W pa v hp h
    have hd : ∀ j : Nat, (W.setCell pa v).cell? ⟨w.heap.size, j, none⟩ = W.cell? ⟨w.heap.size, j, none⟩ := fun j => World.cell?_setCell_far _ _ _ _ hp
    exact ⟨(hd 0).trans h.1, (hd 1).trans h.2.1, (hd 2).trans h.2.2.1, (hd 3).trans h.2.2.2.1, (hd 4).trans h.2.2.2.2.1, (hd 5).trans h.2.2.2.2.2.1, (hd 6).trans h.2.2.2.2.2.2.1, (hd 7).trans h.2.2.2.2.2.2.2.1, (hd 8).trans h.2.2.2.2.2.2.2.2.1, Nat.le_trans h.2.2.2.2.2.2.2.2.2 (by simp [World.setCell])⟩
  have keyC' := Lib.hid keyC
  clear keyC
  have keyA' := Lib.hid keyA
  have keyE' := Lib.hid keyE
  clear keyA keyE
  go_cut [3, 5] (fun v3 v5 wc => ∃ b2 n2 : Nat, v3 = .bool true ∧ v5 = .pointer (some ⟨b2, 0, none⟩) ∧ NextAt w wc a i p b 2 e t l q (.func (.func 67) #[] #[.pointer (some ⟨n2 + 4, 0, none⟩), .pointer (some ⟨n2 + 5, 0, none⟩)]) (.func (.func 52) #[] #[]) b2 n2)
  case first =>
    go_region_held3 (fun w' => w'.cell? ⟨w.heap.size, 0, none⟩ = some (.int .i64 a) ∧ w'.cell? ⟨w.heap.size, 1, none⟩ = some (.int .i64 i) ∧ w'.cell? ⟨w.heap.size, 2, none⟩ = some (.bool p) ∧ w'.cell? ⟨w.heap.size, 3, none⟩ = some (.int .i64 b) ∧ w'.cell? ⟨w.heap.size, 4, none⟩ = some (.int .i64 2) ∧ w'.cell? ⟨w.heap.size, 5, none⟩ = some (.int .i64 e) ∧ w'.cell? ⟨w.heap.size, 6, none⟩ = some (.bool t) ∧ w'.cell? ⟨w.heap.size, 7, none⟩ = some (.int .i64 l) ∧ w'.cell? ⟨w.heap.size, 8, none⟩ = some (.int .i64 q) ∧ w.heap.size + 2 ≤ w'.heap.size) (first | ((with_reducible refine keyA'.out _ _ ?_); with_reducible assumption) | ((with_reducible refine keyE'.out _ _ (by with_reducible assumption) ?_); with_reducible assumption) | (((with_reducible refine keyC'.out _ _ _ (by simp <;> omega) ?_); (with_reducible refine keyC'.out _ _ _ (by simp <;> omega) ?_)); with_reducible assumption) | (simp [*, World.cell?_alloc_lt, World.cell?_alloc_some, World.cell?_setCell_far])) (first | (go_at_call 33; ((with_reducible refine (table_tab _).mono ?_); rintro e' w2 ⟨n2, ht, rfl⟩; have hS2 := keyE'.out _ _ ht.below (by with_reducible assumption); have hc2 := fun b o h => ht.below.cell (p := ⟨b, o, none⟩) h; have hf2 := fun b o h => ht.below.frozen (p := ⟨b, o, none⟩) h; have hlk : (Instr.lookup 85 (.map (some (n2 + 1))) (.int .i64 2) true).run Try.prog w2 = .ok (.tuple #[.agg #[.func (.func 67) #[] #[.pointer (some ⟨n2 + 4, 0, none⟩), .pointer (some ⟨n2 + 5, 0, none⟩)], .func (.func 52) #[] #[]], .bool true]) w2 := look_row ht.map 2 1 _ true rfl; have hlk2 : ∀ o : Obj, (Instr.lookup 85 (.map (some (n2 + 1))) (.int .i64 2) true).run Try.prog (w2.alloc o) = .ok (.tuple #[.agg #[.func (.func 67) #[] #[.pointer (some ⟨n2 + 4, 0, none⟩), .pointer (some ⟨n2 + 5, 0, none⟩)], .func (.func 52) #[] #[]], .bool true]) (w2.alloc o) := fun o => look_row (heap_keep ht.map o) 2 1 _ true rfl)))
    all_goals go_wp2
    all_goals go_meet
    all_goals (have hsz2 := ht.size)
    all_goals (simp at hsz2)
    all_goals first
      | exact ⟨w2.heap.size, n2, rfl, rfl, nextAt_alloc hS2 ((ht.below.block _ (by simp <;> omega)).trans (heap3_1 _ _ _ _)) (((((Below.refl _ _).alloc (Nat.le_refl _) _).alloc (by simp <;> omega) _).alloc (by simp <;> omega) _).drew.trans (ht.below.mono (by simp <;> omega))) ht.objs (fun i cs t h => ht.top i (objs_lt h))⟩
      | exact ⟨w.heap.size + 1 + 1 + 1, n2, rfl, rfl, nextAt_set (f0 := .nilFunc) (g0 := .nilFunc) hS2 ((ht.below.block _ (by simp <;> omega)).trans (heap4_1 _ _ _ _ _)) ((((((Below.refl _ _).alloc (Nat.le_refl _) _).alloc (by simp <;> omega) _).alloc (by simp <;> omega) _).alloc (by simp <;> omega) _).drew.trans (ht.below.mono (by simp <;> omega))) ht.objs (by omega) (by omega) ((ht.below.cell (p := ⟨w.heap.size + 1 + 1 + 1, 0, none⟩) (by simp <;> omega)).trans (cell4_3 _ _ _ _ _ _ 0)) ((ht.below.cell (p := ⟨w.heap.size + 1 + 1 + 1, 1, none⟩) (by simp <;> omega)).trans (cell4_3 _ _ _ _ _ _ 1))⟩
      | trace_state
  case rest =>
    obtain ⟨b2, n2, rfl, rfl, hS, hrow, hB, hobj, hf, hgo⟩ := hcut
    obtain ⟨s0, s1, s2, s3, s4, s5, s6, s7, s8, hsz⟩ := hS
    have hx := hobj 4 _ _ rfl
    have hy := hobj 5 _ _ rfl
    have hrow' := Lib.hid hrow
    have hB' := Lib.hid hB
    clear hobj hgo hrow hB
    go_wp2_with (first | (go_at_call 67; ((with_reducible refine (write1_period ⟨n2 + 4, 0, none⟩ ⟨n2 + 5, 0, none⟩ a i p b 2 e t l q 2 _ hx hy).mono ?_); rintro e' w3 ⟨rfl, hb3, hv3⟩; have hrow3 := (hb3.block _ (by omega)).trans hrow'.out; have hi2 := hi)) | (refine wpList_store_row rfl 31 (.tmp 2) (.tmp 23) rfl (w.heap.size + 1) #[.int .i64 a, .int .i64 2, .slice (some ⟨wc.heap.size + 3, 0, none⟩) 1 1, .int .i64 0] rfl rfl 31 _ hrow3 hi2 rfl (by simp [Value.oneCell']) ?_))
    refine bodyPost_ret (v := .tuple #[.agg #[.int .i64 a, .int .i64 2, .slice (some ⟨wc.heap.size + 3, 0, none⟩) 1 1, .int .i64 0], .bool true, .int .i64 0]) ?_ rfl ?_
    · exact results_cell_two (fn := Try.f9) (p := 2) (q := 3) (r := 4) (ty := 31) rfl _ _ (w.heap.size + 1) 31 #[.int .i64 a, .int .i64 2, .slice (some ⟨wc.heap.size + 3, 0, none⟩) 1 1, .int .i64 0] (0, 0) _ rfl (setRow_same hrow3) Try.underlying31 rfl hi
    · refine ⟨_, rfl, ?_, ?_⟩
      · exact .inr ⟨_, _, rfl, rfl, by omega, (setRow_other _ _ _ _ (by omega)).trans hv3⟩
      · exact (hB'.out.trans (hb3.mono hB'.out.size)).trans (setRow_below _ _ _ (by omega))

set_option maxHeartbeats 4000000 in
set_option maxRecDepth 100000 in
theorem next_3 (a i : Int) (p : Bool) (b e : Int) (t : Bool) (l q : Int) (w : World) (hg : goodD a i b 3 e l q = true) : Calls Try.prog 9 #[.agg #[.int .i64 a, .int .i64 i, .bool p, .int .i64 b, .int .i64 3, .int .i64 e, .bool t, .int .i64 l, .int .i64 q]] w (NextP w a 1 [(1 % 256)] 0 true 0) := by
  have hi : (Try.prog.info? 31).map (·.size) = some 4 := by kernel_rfl
  go_enter Try.func9, Try.ntmps9
  go_wp2_with (first | (go_at_call 32; refine (Good_any a i p b 3 e t l q _).mono ?_; rintro e' w' ⟨rfl, rfl⟩; rw [hg]))
  have keyA : ∀ (W : World) (o : Obj), (fun w' => w'.cell? ⟨w.heap.size, 0, none⟩ = some (.int .i64 a) ∧ w'.cell? ⟨w.heap.size, 1, none⟩ = some (.int .i64 i) ∧ w'.cell? ⟨w.heap.size, 2, none⟩ = some (.bool p) ∧ w'.cell? ⟨w.heap.size, 3, none⟩ = some (.int .i64 b) ∧ w'.cell? ⟨w.heap.size, 4, none⟩ = some (.int .i64 3) ∧ w'.cell? ⟨w.heap.size, 5, none⟩ = some (.int .i64 e) ∧ w'.cell? ⟨w.heap.size, 6, none⟩ = some (.bool t) ∧ w'.cell? ⟨w.heap.size, 7, none⟩ = some (.int .i64 l) ∧ w'.cell? ⟨w.heap.size, 8, none⟩ = some (.int .i64 q) ∧ w.heap.size + 2 ≤ w'.heap.size) W → (fun w' => w'.cell? ⟨w.heap.size, 0, none⟩ = some (.int .i64 a) ∧ w'.cell? ⟨w.heap.size, 1, none⟩ = some (.int .i64 i) ∧ w'.cell? ⟨w.heap.size, 2, none⟩ = some (.bool p) ∧ w'.cell? ⟨w.heap.size, 3, none⟩ = some (.int .i64 b) ∧ w'.cell? ⟨w.heap.size, 4, none⟩ = some (.int .i64 3) ∧ w'.cell? ⟨w.heap.size, 5, none⟩ = some (.int .i64 e) ∧ w'.cell? ⟨w.heap.size, 6, none⟩ = some (.bool t) ∧ w'.cell? ⟨w.heap.size, 7, none⟩ = some (.int .i64 l) ∧ w'.cell? ⟨w.heap.size, 8, none⟩ = some (.int .i64 q) ∧ w.heap.size + 2 ≤ w'.heap.size) (W.alloc o) := by
    intro W o h
    have hd : ∀ j : Nat, (W.alloc o).cell? ⟨w.heap.size, j, none⟩ = W.cell? ⟨w.heap.size, j, none⟩ := fun j => World.cell?_alloc_lt _ _ _ (Nat.lt_of_lt_of_le (by show w.heap.size < w.heap.size + 2; omega) h.2.2.2.2.2.2.2.2.2)
    refine ⟨(hd 0).trans h.1, (hd 1).trans h.2.1, (hd 2).trans h.2.2.1, (hd 3).trans h.2.2.2.1, (hd 4).trans h.2.2.2.2.1, (hd 5).trans h.2.2.2.2.2.1, (hd 6).trans h.2.2.2.2.2.2.1, (hd 7).trans h.2.2.2.2.2.2.2.1, (hd 8).trans h.2.2.2.2.2.2.2.2.1, Nat.le_trans h.2.2.2.2.2.2.2.2.2 (by rw [World.size_alloc]; omega)⟩
  have keyE : ∀ (W W2 : World), Below W.heap.size W W2 → (fun w' => w'.cell? ⟨w.heap.size, 0, none⟩ = some (.int .i64 a) ∧ w'.cell? ⟨w.heap.size, 1, none⟩ = some (.int .i64 i) ∧ w'.cell? ⟨w.heap.size, 2, none⟩ = some (.bool p) ∧ w'.cell? ⟨w.heap.size, 3, none⟩ = some (.int .i64 b) ∧ w'.cell? ⟨w.heap.size, 4, none⟩ = some (.int .i64 3) ∧ w'.cell? ⟨w.heap.size, 5, none⟩ = some (.int .i64 e) ∧ w'.cell? ⟨w.heap.size, 6, none⟩ = some (.bool t) ∧ w'.cell? ⟨w.heap.size, 7, none⟩ = some (.int .i64 l) ∧ w'.cell? ⟨w.heap.size, 8, none⟩ = some (.int .i64 q) ∧ w.heap.size + 2 ≤ w'.heap.size) W → (fun w' => w'.cell? ⟨w.heap.size, 0, none⟩ = some (.int .i64 a) ∧ w'.cell? ⟨w.heap.size, 1, none⟩ = some (.int .i64 i) ∧ w'.cell? ⟨w.heap.size, 2, none⟩ = some (.bool p) ∧ w'.cell? ⟨w.heap.size, 3, none⟩ = some (.int .i64 b) ∧ w'.cell? ⟨w.heap.size, 4, none⟩ = some (.int .i64 3) ∧ w'.cell? ⟨w.heap.size, 5, none⟩ = some (.int .i64 e) ∧ w'.cell? ⟨w.heap.size, 6, none⟩ = some (.bool t) ∧ w'.cell? ⟨w.heap.size, 7, none⟩ = some (.int .i64 l) ∧ w'.cell? ⟨w.heap.size, 8, none⟩ = some (.int .i64 q) ∧ w.heap.size + 2 ≤ w'.heap.size) W2 := by
    intro W W2 hb h
    have hd : ∀ j : Nat, W2.cell? ⟨w.heap.size, j, none⟩ = W.cell? ⟨w.heap.size, j, none⟩ := fun j => hb.cell (Nat.lt_of_lt_of_le (by show w.heap.size < w.heap.size + 2; omega) h.2.2.2.2.2.2.2.2.2)
    exact ⟨(hd 0).trans h.1, (hd 1).trans h.2.1, (hd 2).trans h.2.2.1, (hd 3).trans h.2.2.2.1, (hd 4).trans h.2.2.2.2.1, (hd 5).trans h.2.2.2.2.2.1, (hd 6).trans h.2.2.2.2.2.2.1, (hd 7).trans h.2.2.2.2.2.2.2.1, (hd 8).trans h.2.2.2.2.2.2.2.2.1, Nat.le_trans h.2.2.2.2.2.2.2.2.2 hb.size⟩
  have keyC : ∀ (W : World) (pa : Addr) (v : Value), pa.block ≠ w.heap.size → (fun w' => w'.cell? ⟨w.heap.size, 0, none⟩ = some (.int .i64 a) ∧ w'.cell? ⟨w.heap.size, 1, none⟩ = some (.int .i64 i) ∧ w'.cell? ⟨w.heap.size, 2, none⟩ = some (.bool p) ∧ w'.cell? ⟨w.heap.size, 3, none⟩ = some (.int .i64 b) ∧ w'.cell? ⟨w.heap.size, 4, none⟩ = some (.int .i64 3) ∧ w'.cell? ⟨w.heap.size, 5, none⟩ = some (.int .i64 e) ∧ w'.cell? ⟨w.heap.size, 6, none⟩ = some (.bool t) ∧ w'.cell? ⟨w.heap.size, 7, none⟩ = some (.int .i64 l) ∧ w'.cell? ⟨w.heap.size, 8, none⟩ = some (.int .i64 q) ∧ w.heap.size + 2 ≤ w'.heap.size) W → (fun w' => w'.cell? ⟨w.heap.size, 0, none⟩ = some (.int .i64 a) ∧ w'.cell? ⟨w.heap.size, 1, none⟩ = some (.int .i64 i) ∧ w'.cell? ⟨w.heap.size, 2, none⟩ = some (.bool p) ∧ w'.cell? ⟨w.heap.size, 3, none⟩ = some (.int .i64 b) ∧ w'.cell? ⟨w.heap.size, 4, none⟩ = some (.int .i64 3) ∧ w'.cell? ⟨w.heap.size, 5, none⟩ = some (.int .i64 e) ∧ w'.cell? ⟨w.heap.size, 6, none⟩ = some (.bool t) ∧ w'.cell? ⟨w.heap.size, 7, none⟩ = some (.int .i64 l) ∧ w'.cell? ⟨w.heap.size, 8, none⟩ = some (.int .i64 q) ∧ w.heap.size + 2 ≤ w'.heap.size) (W.setCell pa v) := by
    intro W pa v hp h
    have hd : ∀ j : Nat, (W.setCell pa v).cell? ⟨w.heap.size, j, none⟩ = W.cell? ⟨w.heap.size, j, none⟩ := fun j => World.cell?_setCell_far _ _ _ _ hp
    exact ⟨(hd 0).trans h.1, (hd 1).trans h.2.1, (hd 2).trans h.2.2.1, (hd 3).trans h.2.2.2.1, (hd 4).trans h.2.2.2.2.1, (hd 5).trans h.2.2.2.2.2.1, (hd 6).trans h.2.2.2.2.2.2.1, (hd 7).trans h.2.2.2.2.2.2.2.1, (hd 8).trans h.2.2.2.2.2.2.2.2.1, Nat.le_trans h.2.2.2.2.2.2.2.2.2 (by simp [World.setCell])⟩
  have keyC' := Lib.hid keyC
  clear keyC
  have keyA' := Lib.hid keyA
  have keyE' := Lib.hid keyE
  clear keyA keyE
  go_cut [3, 5] (fun v3 v5 wc => ∃ b2 n2 : Nat, v3 = .bool true ∧ v5 = .pointer (some ⟨b2, 0, none⟩) ∧ NextAt w wc a i p b 3 e t l q (.func (.func 67) #[] #[.pointer (some ⟨n2 + 6, 0, none⟩), .pointer (some ⟨n2 + 7, 0, none⟩)]) (.func (.func 52) #[] #[]) b2 n2)
  case first =>
    go_region_held3 (fun w' => w'.cell? ⟨w.heap.size, 0, none⟩ = some (.int .i64 a) ∧ w'.cell? ⟨w.heap.size, 1, none⟩ = some (.int .i64 i) ∧ w'.cell? ⟨w.heap.size, 2, none⟩ = some (.bool p) ∧ w'.cell? ⟨w.heap.size, 3, none⟩ = some (.int .i64 b) ∧ w'.cell? ⟨w.heap.size, 4, none⟩ = some (.int .i64 3) ∧ w'.cell? ⟨w.heap.size, 5, none⟩ = some (.int .i64 e) ∧ w'.cell? ⟨w.heap.size, 6, none⟩ = some (.bool t) ∧ w'.cell? ⟨w.heap.size, 7, none⟩ = some (.int .i64 l) ∧ w'.cell? ⟨w.heap.size, 8, none⟩ = some (.int .i64 q) ∧ w.heap.size + 2 ≤ w'.heap.size) (first | ((with_reducible refine keyA'.out _ _ ?_); with_reducible assumption) | ((with_reducible refine keyE'.out _ _ (by with_reducible assumption) ?_); with_reducible assumption) | (((with_reducible refine keyC'.out _ _ _ (by simp <;> omega) ?_); (with_reducible refine keyC'.out _ _ _ (by simp <;> omega) ?_)); with_reducible assumption) | (simp [*, World.cell?_alloc_lt, World.cell?_alloc_some, World.cell?_setCell_far])) (first | (go_at_call 33; ((with_reducible refine (table_tab _).mono ?_); rintro e' w2 ⟨n2, ht, rfl⟩; have hS2 := keyE'.out _ _ ht.below (by with_reducible assumption); have hc2 := fun b o h => ht.below.cell (p := ⟨b, o, none⟩) h; have hf2 := fun b o h => ht.below.frozen (p := ⟨b, o, none⟩) h; have hlk : (Instr.lookup 85 (.map (some (n2 + 1))) (.int .i64 3) true).run Try.prog w2 = .ok (.tuple #[.agg #[.func (.func 67) #[] #[.pointer (some ⟨n2 + 6, 0, none⟩), .pointer (some ⟨n2 + 7, 0, none⟩)], .func (.func 52) #[] #[]], .bool true]) w2 := look_row ht.map 3 2 _ true rfl; have hlk2 : ∀ o : Obj, (Instr.lookup 85 (.map (some (n2 + 1))) (.int .i64 3) true).run Try.prog (w2.alloc o) = .ok (.tuple #[.agg #[.func (.func 67) #[] #[.pointer (some ⟨n2 + 6, 0, none⟩), .pointer (some ⟨n2 + 7, 0, none⟩)], .func (.func 52) #[] #[]], .bool true]) (w2.alloc o) := fun o => look_row (heap_keep ht.map o) 3 2 _ true rfl)))
    all_goals go_wp2
    all_goals go_meet
    all_goals (have hsz2 := ht.size)
    all_goals (simp at hsz2)
    all_goals first
      | exact ⟨w2.heap.size, n2, rfl, rfl, nextAt_alloc hS2 ((ht.below.block _ (by simp <;> omega)).trans (heap3_1 _ _ _ _)) (((((Below.refl _ _).alloc (Nat.le_refl _) _).alloc (by simp <;> omega) _).alloc (by simp <;> omega) _).drew.trans (ht.below.mono (by simp <;> omega))) ht.objs (fun i cs t h => ht.top i (objs_lt h))⟩
      | exact ⟨w.heap.size + 1 + 1 + 1, n2, rfl, rfl, nextAt_set (f0 := .nilFunc) (g0 := .nilFunc) hS2 ((ht.below.block _ (by simp <;> omega)).trans (heap4_1 _ _ _ _ _)) ((((((Below.refl _ _).alloc (Nat.le_refl _) _).alloc (by simp <;> omega) _).alloc (by simp <;> omega) _).alloc (by simp <;> omega) _).drew.trans (ht.below.mono (by simp <;> omega))) ht.objs (by omega) (by omega) ((ht.below.cell (p := ⟨w.heap.size + 1 + 1 + 1, 0, none⟩) (by simp <;> omega)).trans (cell4_3 _ _ _ _ _ _ 0)) ((ht.below.cell (p := ⟨w.heap.size + 1 + 1 + 1, 1, none⟩) (by simp <;> omega)).trans (cell4_3 _ _ _ _ _ _ 1))⟩
      | trace_state
  case rest =>
    obtain ⟨b2, n2, rfl, rfl, hS, hrow, hB, hobj, hf, hgo⟩ := hcut
    obtain ⟨s0, s1, s2, s3, s4, s5, s6, s7, s8, hsz⟩ := hS
    have hx := hobj 6 _ _ rfl
    have hy := hobj 7 _ _ rfl
    have hz := hobj 0 _ _ rfl
    have hrow' := Lib.hid hrow
    have hB' := Lib.hid hB
    clear hobj hgo hrow hB
    go_wp2_with (first | (go_at_call 67; ((with_reducible refine (write1_always ⟨n2 + 6, 0, none⟩ ⟨n2 + 7, 0, none⟩ ⟨n2 + 0, 0, none⟩ a i p b 3 e t l q 1 1 _ hx hy hz).mono ?_); rintro e' w3 ⟨rfl, hb3, hv3⟩; have hrow3 := (hb3.block _ (by omega)).trans hrow'.out; have hi2 := hi)) | (refine wpList_store_row rfl 31 (.tmp 2) (.tmp 23) rfl (w.heap.size + 1) #[.int .i64 a, .int .i64 1, .slice (some ⟨wc.heap.size + 3, 0, none⟩) 1 1, .int .i64 0] rfl rfl 31 _ hrow3 hi2 rfl (by simp [Value.oneCell']) ?_))
    refine bodyPost_ret (v := .tuple #[.agg #[.int .i64 a, .int .i64 1, .slice (some ⟨wc.heap.size + 3, 0, none⟩) 1 1, .int .i64 0], .bool true, .int .i64 0]) ?_ rfl ?_
    · exact results_cell_two (fn := Try.f9) (p := 2) (q := 3) (r := 4) (ty := 31) rfl _ _ (w.heap.size + 1) 31 #[.int .i64 a, .int .i64 1, .slice (some ⟨wc.heap.size + 3, 0, none⟩) 1 1, .int .i64 0] (0, 0) _ rfl (setRow_same hrow3) Try.underlying31 rfl hi
    · refine ⟨_, rfl, ?_, ?_⟩
      · exact .inr ⟨_, _, rfl, rfl, by omega, (setRow_other _ _ _ _ (by omega)).trans hv3⟩
      · exact (hB'.out.trans (hb3.mono hB'.out.size)).trans (setRow_below _ _ _ (by omega))

set_option maxHeartbeats 4000000 in
set_option maxRecDepth 100000 in
theorem next_4 (a i : Int) (p : Bool) (b e : Int) (t : Bool) (l q : Int) (w : World) (hg : goodD a i b 4 e l q = true) : Calls Try.prog 9 #[.agg #[.int .i64 a, .int .i64 i, .bool p, .int .i64 b, .int .i64 4, .int .i64 e, .bool t, .int .i64 l, .int .i64 q]] w (NextP w a 3 [] 1 true 0) := by
  have hi : (Try.prog.info? 31).map (·.size) = some 4 := by kernel_rfl
  go_enter Try.func9, Try.ntmps9
  go_wp2_with (first | (go_at_call 32; refine (Good_any a i p b 4 e t l q _).mono ?_; rintro e' w' ⟨rfl, rfl⟩; rw [hg]))
  have keyA : ∀ (W : World) (o : Obj), (fun w' => w'.cell? ⟨w.heap.size, 0, none⟩ = some (.int .i64 a) ∧ w'.cell? ⟨w.heap.size, 1, none⟩ = some (.int .i64 i) ∧ w'.cell? ⟨w.heap.size, 2, none⟩ = some (.bool p) ∧ w'.cell? ⟨w.heap.size, 3, none⟩ = some (.int .i64 b) ∧ w'.cell? ⟨w.heap.size, 4, none⟩ = some (.int .i64 4) ∧ w'.cell? ⟨w.heap.size, 5, none⟩ = some (.int .i64 e) ∧ w'.cell? ⟨w.heap.size, 6, none⟩ = some (.bool t) ∧ w'.cell? ⟨w.heap.size, 7, none⟩ = some (.int .i64 l) ∧ w'.cell? ⟨w.heap.size, 8, none⟩ = some (.int .i64 q) ∧ w.heap.size + 2 ≤ w'.heap.size) W → (fun w' => w'.cell? ⟨w.heap.size, 0, none⟩ = some (.int .i64 a) ∧ w'.cell? ⟨w.heap.size, 1, none⟩ = some (.int .i64 i) ∧ w'.cell? ⟨w.heap.size, 2, none⟩ = some (.bool p) ∧ w'.cell? ⟨w.heap.size, 3, none⟩ = some (.int .i64 b) ∧ w'.cell? ⟨w.heap.size, 4, none⟩ = some (.int .i64 4) ∧ w'.cell? ⟨w.heap.size, 5, none⟩ = some (.int .i64 e) ∧ w'.cell? ⟨w.heap.size, 6, none⟩ = some (.bool t) ∧ w'.cell? ⟨w.heap.size, 7, none⟩ = some (.int .i64 l) ∧ w'.cell? ⟨w.heap.size, 8, none⟩ = some (.int .i64 q) ∧ w.heap.size + 2 ≤ w'.heap.size) (W.alloc o) := by
    intro W o h
    have hd : ∀ j : Nat, (W.alloc o).cell? ⟨w.heap.size, j, none⟩ = W.cell? ⟨w.heap.size, j, none⟩ := fun j => World.cell?_alloc_lt _ _ _ (Nat.lt_of_lt_of_le (by show w.heap.size < w.heap.size + 2; omega) h.2.2.2.2.2.2.2.2.2)
    refine ⟨(hd 0).trans h.1, (hd 1).trans h.2.1, (hd 2).trans h.2.2.1, (hd 3).trans h.2.2.2.1, (hd 4).trans h.2.2.2.2.1, (hd 5).trans h.2.2.2.2.2.1, (hd 6).trans h.2.2.2.2.2.2.1, (hd 7).trans h.2.2.2.2.2.2.2.1, (hd 8).trans h.2.2.2.2.2.2.2.2.1, Nat.le_trans h.2.2.2.2.2.2.2.2.2 (by rw [World.size_alloc]; omega)⟩
  have keyE : ∀ (W W2 : World), Below W.heap.size W W2 → (fun w' => w'.cell? ⟨w.heap.size, 0, none⟩ = some (.int .i64 a) ∧ w'.cell? ⟨w.heap.size, 1, none⟩ = some (.int .i64 i) ∧ w'.cell? ⟨w.heap.size, 2, none⟩ = some (.bool p) ∧ w'.cell? ⟨w.heap.size, 3, none⟩ = some (.int .i64 b) ∧ w'.cell? ⟨w.heap.size, 4, none⟩ = some (.int .i64 4) ∧ w'.cell? ⟨w.heap.size, 5, none⟩ = some (.int .i64 e) ∧ w'.cell? ⟨w.heap.size, 6, none⟩ = some (.bool t) ∧ w'.cell? ⟨w.heap.size, 7, none⟩ = some (.int .i64 l) ∧ w'.cell? ⟨w.heap.size, 8, none⟩ = some (.int .i64 q) ∧ w.heap.size + 2 ≤ w'.heap.size) W → (fun w' => w'.cell? ⟨w.heap.size, 0, none⟩ = some (.int .i64 a) ∧ w'.cell? ⟨w.heap.size, 1, none⟩ = some (.int .i64 i) ∧ w'.cell? ⟨w.heap.size, 2, none⟩ = some (.bool p) ∧ w'.cell? ⟨w.heap.size, 3, none⟩ = some (.int .i64 b) ∧ w'.cell? ⟨w.heap.size, 4, none⟩ = some (.int .i64 4) ∧ w'.cell? ⟨w.heap.size, 5, none⟩ = some (.int .i64 e) ∧ w'.cell? ⟨w.heap.size, 6, none⟩ = some (.bool t) ∧ w'.cell? ⟨w.heap.size, 7, none⟩ = some (.int .i64 l) ∧ w'.cell? ⟨w.heap.size, 8, none⟩ = some (.int .i64 q) ∧ w.heap.size + 2 ≤ w'.heap.size) W2 := by
    intro W W2 hb h
    have hd : ∀ j : Nat, W2.cell? ⟨w.heap.size, j, none⟩ = W.cell? ⟨w.heap.size, j, none⟩ := fun j => hb.cell (Nat.lt_of_lt_of_le (by show w.heap.size < w.heap.size + 2; omega) h.2.2.2.2.2.2.2.2.2)
    exact ⟨(hd 0).trans h.1, (hd 1).trans h.2.1, (hd 2).trans h.2.2.1, (hd 3).trans h.2.2.2.1, (hd 4).trans h.2.2.2.2.1, (hd 5).trans h.2.2.2.2.2.1, (hd 6).trans h.2.2.2.2.2.2.1, (hd 7).trans h.2.2.2.2.2.2.2.1, (hd 8).trans h.2.2.2.2.2.2.2.2.1, Nat.le_trans h.2.2.2.2.2.2.2.2.2 hb.size⟩
  have keyC : ∀ (W : World) (pa : Addr) (v : Value), pa.block ≠ w.heap.size → (fun w' => w'.cell? ⟨w.heap.size, 0, none⟩ = some (.int .i64 a) ∧ w'.cell? ⟨w.heap.size, 1, none⟩ = some (.int .i64 i) ∧ w'.cell? ⟨w.heap.size, 2, none⟩ = some (.bool p) ∧ w'.cell? ⟨w.heap.size, 3, none⟩ = some (.int .i64 b) ∧ w'.cell? ⟨w.heap.size, 4, none⟩ = some (.int .i64 4) ∧ w'.cell? ⟨w.heap.size, 5, none⟩ = some (.int .i64 e) ∧ w'.cell? ⟨w.heap.size, 6, none⟩ = some (.bool t) ∧ w'.cell? ⟨w.heap.size, 7, none⟩ = some (.int .i64 l) ∧ w'.cell? ⟨w.heap.size, 8, none⟩ = some (.int .i64 q) ∧ w.heap.size + 2 ≤ w'.heap.size) W → (fun w' => w'.cell? ⟨w.heap.size, 0, none⟩ = some (.int .i64 a) ∧ w'.cell? ⟨w.heap.size, 1, none⟩ = some (.int .i64 i) ∧ w'.cell? ⟨w.heap.size, 2, none⟩ = some (.bool p) ∧ w'.cell? ⟨w.heap.size, 3, none⟩ = some (.int .i64 b) ∧ w'.cell? ⟨w.heap.size, 4, none⟩ = some (.int .i64 4) ∧ w'.cell? ⟨w.heap.size, 5, none⟩ = some (.int .i64 e) ∧ w'.cell? ⟨w.heap.size, 6, none⟩ = some (.bool t) ∧ w'.cell? ⟨w.heap.size, 7, none⟩ = some (.int .i64 l) ∧ w'.cell? ⟨w.heap.size, 8, none⟩ = some (.int .i64 q) ∧ w.heap.size + 2 ≤ w'.heap.size) (W.setCell pa v) := by
    intro W pa v hp h
    have hd : ∀ j : Nat, (W.setCell pa v).cell? ⟨w.heap.size, j, none⟩ = W.cell? ⟨w.heap.size, j, none⟩ := fun j => World.cell?_setCell_far _ _ _ _ hp
    exact ⟨(hd 0).trans h.1, (hd 1).trans h.2.1, (hd 2).trans h.2.2.1, (hd 3).trans h.2.2.2.1, (hd 4).trans h.2.2.2.2.1, (hd 5).trans h.2.2.2.2.2.1, (hd 6).trans h.2.2.2.2.2.2.1, (hd 7).trans h.2.2.2.2.2.2.2.1, (hd 8).trans h.2.2.2.2.2.2.2.2.1, Nat.le_trans h.2.2.2.2.2.2.2.2.2 (by simp [World.setCell])⟩
  have keyC' := Lib.hid keyC
  clear keyC
  have keyA' := Lib.hid keyA
  have keyE' := Lib.hid keyE
  clear keyA keyE
  go_cut [3, 5] (fun v3 v5 wc => ∃ b2 n2 : Nat, v3 = .bool true ∧ v5 = .pointer (some ⟨b2, 0, none⟩) ∧ NextAt w wc a i p b 4 e t l q (.func (.func 66) #[] #[.pointer (some ⟨n2 + 8, 0, none⟩), .pointer (some ⟨n2 + 9, 0, none⟩)]) (.func (.func 55) #[] #[]) b2 n2)
  case first =>
    go_region_held3 (fun w' => w'.cell? ⟨w.heap.size, 0, none⟩ = some (.int .i64 a) ∧ w'.cell? ⟨w.heap.size, 1, none⟩ = some (.int .i64 i) ∧ w'.cell? ⟨w.heap.size, 2, none⟩ = some (.bool p) ∧ w'.cell? ⟨w.heap.size, 3, none⟩ = some (.int .i64 b) ∧ w'.cell? ⟨w.heap.size, 4, none⟩ = some (.int .i64 4) ∧ w'.cell? ⟨w.heap.size, 5, none⟩ = some (.int .i64 e) ∧ w'.cell? ⟨w.heap.size, 6, none⟩ = some (.bool t) ∧ w'.cell? ⟨w.heap.size, 7, none⟩ = some (.int .i64 l) ∧ w'.cell? ⟨w.heap.size, 8, none⟩ = some (.int .i64 q) ∧ w.heap.size + 2 ≤ w'.heap.size) (first | ((with_reducible refine keyA'.out _ _ ?_); with_reducible assumption) | ((with_reducible refine keyE'.out _ _ (by with_reducible assumption) ?_); with_reducible assumption) | (((with_reducible refine keyC'.out _ _ _ (by simp <;> omega) ?_); (with_reducible refine keyC'.out _ _ _ (by simp <;> omega) ?_)); with_reducible assumption) | (simp [*, World.cell?_alloc_lt, World.cell?_alloc_some, World.cell?_setCell_far])) (first | (go_at_call 33; ((with_reducible refine (table_tab _).mono ?_); rintro e' w2 ⟨n2, ht, rfl⟩; have hS2 := keyE'.out _ _ ht.below (by with_reducible assumption); have hc2 := fun b o h => ht.below.cell (p := ⟨b, o, none⟩) h; have hf2 := fun b o h => ht.below.frozen (p := ⟨b, o, none⟩) h; have hlk : (Instr.lookup 85 (.map (some (n2 + 1))) (.int .i64 4) true).run Try.prog w2 = .ok (.tuple #[.agg #[.func (.func 66) #[] #[.pointer (some ⟨n2 + 8, 0, none⟩), .pointer (some ⟨n2 + 9, 0, none⟩)], .func (.func 55) #[] #[]], .bool true]) w2 := look_row ht.map 4 3 _ true rfl; have hlk2 : ∀ o : Obj, (Instr.lookup 85 (.map (some (n2 + 1))) (.int .i64 4) true).run Try.prog (w2.alloc o) = .ok (.tuple #[.agg #[.func (.func 66) #[] #[.pointer (some ⟨n2 + 8, 0, none⟩), .pointer (some ⟨n2 + 9, 0, none⟩)], .func (.func 55) #[] #[]], .bool true]) (w2.alloc o) := fun o => look_row (heap_keep ht.map o) 4 3 _ true rfl)))
    all_goals go_wp2
    all_goals go_meet
    all_goals (have hsz2 := ht.size)
    all_goals (simp at hsz2)
    all_goals first
      | exact ⟨w2.heap.size, n2, rfl, rfl, nextAt_alloc hS2 ((ht.below.block _ (by simp <;> omega)).trans (heap3_1 _ _ _ _)) (((((Below.refl _ _).alloc (Nat.le_refl _) _).alloc (by simp <;> omega) _).alloc (by simp <;> omega) _).drew.trans (ht.below.mono (by simp <;> omega))) ht.objs (fun i cs t h => ht.top i (objs_lt h))⟩
      | exact ⟨w.heap.size + 1 + 1 + 1, n2, rfl, rfl, nextAt_set (f0 := .nilFunc) (g0 := .nilFunc) hS2 ((ht.below.block _ (by simp <;> omega)).trans (heap4_1 _ _ _ _ _)) ((((((Below.refl _ _).alloc (Nat.le_refl _) _).alloc (by simp <;> omega) _).alloc (by simp <;> omega) _).alloc (by simp <;> omega) _).drew.trans (ht.below.mono (by simp <;> omega))) ht.objs (by omega) (by omega) ((ht.below.cell (p := ⟨w.heap.size + 1 + 1 + 1, 0, none⟩) (by simp <;> omega)).trans (cell4_3 _ _ _ _ _ _ 0)) ((ht.below.cell (p := ⟨w.heap.size + 1 + 1 + 1, 1, none⟩) (by simp <;> omega)).trans (cell4_3 _ _ _ _ _ _ 1))⟩
      | trace_state
  case rest =>
    obtain ⟨b2, n2, rfl, rfl, hS, hrow, hB, hobj, hf, hgo⟩ := hcut
    obtain ⟨s0, s1, s2, s3, s4, s5, s6, s7, s8, hsz⟩ := hS
    have hx := hobj 8 _ _ rfl
    have hy := hobj 9 _ _ rfl
    have hz := hobj 0 _ _ rfl
    have hrow' := Lib.hid hrow
    have hB' := Lib.hid hB
    clear hobj hgo hrow hB
    go_wp2_with (first | (go_at_call 66; ((with_reducible refine (read1_always ⟨n2 + 8, 0, none⟩ ⟨n2 + 9, 0, none⟩ ⟨n2 + 0, 0, none⟩ a i p b 4 e t l q 3 1 _ hx hy hz).mono ?_); rintro e' w3 ⟨rfl, hb3⟩; have hrow3 := (hb3.block _ (by omega)).trans hrow'.out; have hi2 := hi)) | (refine wpList_store_row rfl 31 (.tmp 2) (.tmp 23) rfl (w.heap.size + 1) #[.int .i64 a, .int .i64 3, .slice none 0 0, .int .i64 1] rfl rfl 31 _ hrow3 hi2 rfl (by simp [Value.oneCell']) ?_))
    refine bodyPost_ret (v := .tuple #[.agg #[.int .i64 a, .int .i64 3, .slice none 0 0, .int .i64 1], .bool true, .int .i64 0]) ?_ rfl ?_
    · exact results_cell_two (fn := Try.f9) (p := 2) (q := 3) (r := 4) (ty := 31) rfl _ _ (w.heap.size + 1) 31 #[.int .i64 a, .int .i64 3, .slice none 0 0, .int .i64 1] (0, 0) _ rfl (setRow_same hrow3) Try.underlying31 rfl hi
    · refine ⟨_, rfl, ?_, ?_⟩
      · exact .inl ⟨rfl, rfl⟩
      · exact (hB'.out.trans (hb3.mono hB'.out.size)).trans (setRow_below _ _ _ (by omega))

set_option maxHeartbeats 4000000 in
set_option maxRecDepth 100000 in
theorem next_5 (a i : Int) (p : Bool) (b e : Int) (t : Bool) (l q : Int) (w : World) (hg : goodD a i b 5 e l q = true) : Calls Try.prog 9 #[.agg #[.int .i64 a, .int .i64 i, .bool p, .int .i64 b, .int .i64 5, .int .i64 e, .bool t, .int .i64 l, .int .i64 q]] w (NextP w a 4 [] (8 * l) true 0) := by
  have hgd := goodD_iff hg
  have h0 : 1 ≤ l := (hgd.2.2.2.2.2.2.2.2.2.2.2.2.1 rfl).1
  have h1 : l ≤ 16 := (hgd.2.2.2.2.2.2.2.2.2.2.2.2.1 rfl).2
  clear hgd
  have hi : (Try.prog.info? 31).map (·.size) = some 4 := by kernel_rfl
  go_enter Try.func9, Try.ntmps9
  go_wp2_with (first | (go_at_call 32; refine (Good_any a i p b 5 e t l q _).mono ?_; rintro e' w' ⟨rfl, rfl⟩; rw [hg]))
  have keyA : ∀ (W : World) (o : Obj), (fun w' => w'.cell? ⟨w.heap.size, 0, none⟩ = some (.int .i64 a) ∧ w'.cell? ⟨w.heap.size, 1, none⟩ = some (.int .i64 i) ∧ w'.cell? ⟨w.heap.size, 2, none⟩ = some (.bool p) ∧ w'.cell? ⟨w.heap.size, 3, none⟩ = some (.int .i64 b) ∧ w'.cell? ⟨w.heap.size, 4, none⟩ = some (.int .i64 5) ∧ w'.cell? ⟨w.heap.size, 5, none⟩ = some (.int .i64 e) ∧ w'.cell? ⟨w.heap.size, 6, none⟩ = some (.bool t) ∧ w'.cell? ⟨w.heap.size, 7, none⟩ = some (.int .i64 l) ∧ w'.cell? ⟨w.heap.size, 8, none⟩ = some (.int .i64 q) ∧ w.heap.size + 2 ≤ w'.heap.size) W → (fun w' => w'.cell? ⟨w.heap.size, 0, none⟩ = some (.int .i64 a) ∧ w'.cell? ⟨w.heap.size, 1, none⟩ = some (.int .i64 i) ∧ w'.cell? ⟨w.heap.size, 2, none⟩ = some (.bool p) ∧ w'.cell? ⟨w.heap.size, 3, none⟩ = some (.int .i64 b) ∧ w'.cell? ⟨w.heap.size, 4, none⟩ = some (.int .i64 5) ∧ w'.cell? ⟨w.heap.size, 5, none⟩ = some (.int .i64 e) ∧ w'.cell? ⟨w.heap.size, 6, none⟩ = some (.bool t) ∧ w'.cell? ⟨w.heap.size, 7, none⟩ = some (.int .i64 l) ∧ w'.cell? ⟨w.heap.size, 8, none⟩ = some (.int .i64 q) ∧ w.heap.size + 2 ≤ w'.heap.size) (W.alloc o) := by
    intro W o h
    have hd : ∀ j : Nat, (W.alloc o).cell? ⟨w.heap.size, j, none⟩ = W.cell? ⟨w.heap.size, j, none⟩ := fun j => World.cell?_alloc_lt _ _ _ (Nat.lt_of_lt_of_le (by show w.heap.size < w.heap.size + 2; omega) h.2.2.2.2.2.2.2.2.2)
    refine ⟨(hd 0).trans h.1, (hd 1).trans h.2.1, (hd 2).trans h.2.2.1, (hd 3).trans h.2.2.2.1, (hd 4).trans h.2.2.2.2.1, (hd 5).trans h.2.2.2.2.2.1, (hd 6).trans h.2.2.2.2.2.2.1, (hd 7).trans h.2.2.2.2.2.2.2.1, (hd 8).trans h.2.2.2.2.2.2.2.2.1, Nat.le_trans h.2.2.2.2.2.2.2.2.2 (by rw [World.size_alloc]; omega)⟩
  have keyE : ∀ (W W2 : World), Below W.heap.size W W2 → (fun w' => w'.cell? ⟨w.heap.size, 0, none⟩ = some (.int .i64 a) ∧ w'.cell? ⟨w.heap.size, 1, none⟩ = some (.int .i64 i) ∧ w'.cell? ⟨w.heap.size, 2, none⟩ = some (.bool p) ∧ w'.cell? ⟨w.heap.size, 3, none⟩ = some (.int .i64 b) ∧ w'.cell? ⟨w.heap.size, 4, none⟩ = some (.int .i64 5) ∧ w'.cell? ⟨w.heap.size, 5, none⟩ = some (.int .i64 e) ∧ w'.cell? ⟨w.heap.size, 6, none⟩ = some (.bool t) ∧ w'.cell? ⟨w.heap.size, 7, none⟩ = some (.int .i64 l) ∧ w'.cell? ⟨w.heap.size, 8, none⟩ = some (.int .i64 q) ∧ w.heap.size + 2 ≤ w'.heap.size) W → (fun w' => w'.cell? ⟨w.heap.size, 0, none⟩ = some (.int .i64 a) ∧ w'.cell? ⟨w.heap.size, 1, none⟩ = some (.int .i64 i) ∧ w'.cell? ⟨w.heap.size, 2, none⟩ = some (.bool p) ∧ w'.cell? ⟨w.heap.size, 3, none⟩ = some (.int .i64 b) ∧ w'.cell? ⟨w.heap.size, 4, none⟩ = some (.int .i64 5) ∧ w'.cell? ⟨w.heap.size, 5, none⟩ = some (.int .i64 e) ∧ w'.cell? ⟨w.heap.size, 6, none⟩ = some (.bool t) ∧ w'.cell? ⟨w.heap.size, 7, none⟩ = some (.int .i64 l) ∧ w'.cell? ⟨w.heap.size, 8, none⟩ = some (.int .i64 q) ∧ w.heap.size + 2 ≤ w'.heap.size) W2 := by
    intro W W2 hb h
    have hd : ∀ j : Nat, W2.cell? ⟨w.heap.size, j, none⟩ = W.cell? ⟨w.heap.size, j, none⟩ := fun j => hb.cell (Nat.lt_of_lt_of_le (by show w.heap.size < w.heap.size + 2; omega) h.2.2.2.2.2.2.2.2.2)
    exact ⟨(hd 0).trans h.1, (hd 1).trans h.2.1, (hd 2).trans h.2.2.1, (hd 3).trans h.2.2.2.1, (hd 4).trans h.2.2.2.2.1, (hd 5).trans h.2.2.2.2.2.1, (hd 6).trans h.2.2.2.2.2.2.1, (hd 7).trans h.2.2.2.2.2.2.2.1, (hd 8).trans h.2.2.2.2.2.2.2.2.1, Nat.le_trans h.2.2.2.2.2.2.2.2.2 hb.size⟩
  have keyC : ∀ (W : World) (pa : Addr) (v : Value), pa.block ≠ w.heap.size → (fun w' => w'.cell? ⟨w.heap.size, 0, none⟩ = some (.int .i64 a) ∧ w'.cell? ⟨w.heap.size, 1, none⟩ = some (.int .i64 i) ∧ w'.cell? ⟨w.heap.size, 2, none⟩ = some (.bool p) ∧ w'.cell? ⟨w.heap.size, 3, none⟩ = some (.int .i64 b) ∧ w'.cell? ⟨w.heap.size, 4, none⟩ = some (.int .i64 5) ∧ w'.cell? ⟨w.heap.size, 5, none⟩ = some (.int .i64 e) ∧ w'.cell? ⟨w.heap.size, 6, none⟩ = some (.bool t) ∧ w'.cell? ⟨w.heap.size, 7, none⟩ = some (.int .i64 l) ∧ w'.cell? ⟨w.heap.size, 8, none⟩ = some (.int .i64 q) ∧ w.heap.size + 2 ≤ w'.heap.size) W → (fun w' => w'.cell? ⟨w.heap.size, 0, none⟩ = some (.int .i64 a) ∧ w'.cell? ⟨w.heap.size, 1, none⟩ = some (.int .i64 i) ∧ w'.cell? ⟨w.heap.size, 2, none⟩ = some (.bool p) ∧ w'.cell? ⟨w.heap.size, 3, none⟩ = some (.int .i64 b) ∧ w'.cell? ⟨w.heap.size, 4, none⟩ = some (.int .i64 5) ∧ w'.cell? ⟨w.heap.size, 5, none⟩ = some (.int .i64 e) ∧ w'.cell? ⟨w.heap.size, 6, none⟩ = some (.bool t) ∧ w'.cell? ⟨w.heap.size, 7, none⟩ = some (.int .i64 l) ∧ w'.cell? ⟨w.heap.size, 8, none⟩ = some (.int .i64 q) ∧ w.heap.size + 2 ≤ w'.heap.size) (W.setCell pa v) := by
    intro W pa v hp h
    have hd : ∀ j : Nat, (W.setCell pa v).cell? ⟨w.heap.size, j, none⟩ = W.cell? ⟨w.heap.size, j, none⟩ := fun j => World.cell?_setCell_far _ _ _ _ hp
    exact ⟨(hd 0).trans h.1, (hd 1).trans h.2.1, (hd 2).trans h.2.2.1, (hd 3).trans h.2.2.2.1, (hd 4).trans h.2.2.2.2.1, (hd 5).trans h.2.2.2.2.2.1, (hd 6).trans h.2.2.2.2.2.2.1, (hd 7).trans h.2.2.2.2.2.2.2.1, (hd 8).trans h.2.2.2.2.2.2.2.2.1, Nat.le_trans h.2.2.2.2.2.2.2.2.2 (by simp [World.setCell])⟩
  have keyC' := Lib.hid keyC
  clear keyC
  have keyA' := Lib.hid keyA
  have keyE' := Lib.hid keyE
  clear keyA keyE
  go_cut [3, 5] (fun v3 v5 wc => ∃ b2 n2 : Nat, v3 = .bool true ∧ v5 = .pointer (some ⟨b2, 0, none⟩) ∧ NextAt w wc a i p b 5 e t l q (.func (.func 66) #[] #[.pointer (some ⟨n2 + 10, 0, none⟩), .pointer (some ⟨n2 + 11, 0, none⟩)]) (.func (.func 57) #[] #[]) b2 n2)
  case first =>
    go_region_held3 (fun w' => w'.cell? ⟨w.heap.size, 0, none⟩ = some (.int .i64 a) ∧ w'.cell? ⟨w.heap.size, 1, none⟩ = some (.int .i64 i) ∧ w'.cell? ⟨w.heap.size, 2, none⟩ = some (.bool p) ∧ w'.cell? ⟨w.heap.size, 3, none⟩ = some (.int .i64 b) ∧ w'.cell? ⟨w.heap.size, 4, none⟩ = some (.int .i64 5) ∧ w'.cell? ⟨w.heap.size, 5, none⟩ = some (.int .i64 e) ∧ w'.cell? ⟨w.heap.size, 6, none⟩ = some (.bool t) ∧ w'.cell? ⟨w.heap.size, 7, none⟩ = some (.int .i64 l) ∧ w'.cell? ⟨w.heap.size, 8, none⟩ = some (.int .i64 q) ∧ w.heap.size + 2 ≤ w'.heap.size) (first | ((with_reducible refine keyA'.out _ _ ?_); with_reducible assumption) | ((with_reducible refine keyE'.out _ _ (by with_reducible assumption) ?_); with_reducible assumption) | (((with_reducible refine keyC'.out _ _ _ (by simp <;> omega) ?_); (with_reducible refine keyC'.out _ _ _ (by simp <;> omega) ?_)); with_reducible assumption) | (simp [*, World.cell?_alloc_lt, World.cell?_alloc_some, World.cell?_setCell_far])) (first | (go_at_call 33; ((with_reducible refine (table_tab _).mono ?_); rintro e' w2 ⟨n2, ht, rfl⟩; have hS2 := keyE'.out _ _ ht.below (by with_reducible assumption); have hc2 := fun b o h => ht.below.cell (p := ⟨b, o, none⟩) h; have hf2 := fun b o h => ht.below.frozen (p := ⟨b, o, none⟩) h; have hlk : (Instr.lookup 85 (.map (some (n2 + 1))) (.int .i64 5) true).run Try.prog w2 = .ok (.tuple #[.agg #[.func (.func 66) #[] #[.pointer (some ⟨n2 + 10, 0, none⟩), .pointer (some ⟨n2 + 11, 0, none⟩)], .func (.func 57) #[] #[]], .bool true]) w2 := look_row ht.map 5 4 _ true rfl; have hlk2 : ∀ o : Obj, (Instr.lookup 85 (.map (some (n2 + 1))) (.int .i64 5) true).run Try.prog (w2.alloc o) = .ok (.tuple #[.agg #[.func (.func 66) #[] #[.pointer (some ⟨n2 + 10, 0, none⟩), .pointer (some ⟨n2 + 11, 0, none⟩)], .func (.func 57) #[] #[]], .bool true]) (w2.alloc o) := fun o => look_row (heap_keep ht.map o) 5 4 _ true rfl)))
    all_goals go_wp2
    all_goals go_meet
    all_goals (have hsz2 := ht.size)
    all_goals (simp at hsz2)
    all_goals first
      | exact ⟨w2.heap.size, n2, rfl, rfl, nextAt_alloc hS2 ((ht.below.block _ (by simp <;> omega)).trans (heap3_1 _ _ _ _)) (((((Below.refl _ _).alloc (Nat.le_refl _) _).alloc (by simp <;> omega) _).alloc (by simp <;> omega) _).drew.trans (ht.below.mono (by simp <;> omega))) ht.objs (fun i cs t h => ht.top i (objs_lt h))⟩
      | exact ⟨w.heap.size + 1 + 1 + 1, n2, rfl, rfl, nextAt_set (f0 := .nilFunc) (g0 := .nilFunc) hS2 ((ht.below.block _ (by simp <;> omega)).trans (heap4_1 _ _ _ _ _)) ((((((Below.refl _ _).alloc (Nat.le_refl _) _).alloc (by simp <;> omega) _).alloc (by simp <;> omega) _).alloc (by simp <;> omega) _).drew.trans (ht.below.mono (by simp <;> omega))) ht.objs (by omega) (by omega) ((ht.below.cell (p := ⟨w.heap.size + 1 + 1 + 1, 0, none⟩) (by simp <;> omega)).trans (cell4_3 _ _ _ _ _ _ 0)) ((ht.below.cell (p := ⟨w.heap.size + 1 + 1 + 1, 1, none⟩) (by simp <;> omega)).trans (cell4_3 _ _ _ _ _ _ 1))⟩
      | trace_state
  case rest =>
    obtain ⟨b2, n2, rfl, rfl, hS, hrow, hB, hobj, hf, hgo⟩ := hcut
    obtain ⟨s0, s1, s2, s3, s4, s5, s6, s7, s8, hsz⟩ := hS
    have hx := hobj 10 _ _ rfl
    have hy := hobj 11 _ _ rfl
    have hrow' := Lib.hid hrow
    have hB' := Lib.hid hB
    clear hobj hgo hrow hB
    go_wp2_with (first | (go_at_call 66; ((with_reducible refine (read1_left ⟨n2 + 10, 0, none⟩ ⟨n2 + 11, 0, none⟩ a i p b 5 e t l q 4 _ hx hy (by omega) (by omega)).mono ?_); rintro e' w3 ⟨rfl, hb3⟩; have hrow3 := (hb3.block _ (by omega)).trans hrow'.out; have hi2 := hi)) | (refine wpList_store_row rfl 31 (.tmp 2) (.tmp 23) rfl (w.heap.size + 1) #[.int .i64 a, .int .i64 4, .slice none 0 0, .int .i64 (8 * l)] rfl rfl 31 _ hrow3 hi2 rfl (by simp [Value.oneCell']) ?_))
    refine bodyPost_ret (v := .tuple #[.agg #[.int .i64 a, .int .i64 4, .slice none 0 0, .int .i64 (8 * l)], .bool true, .int .i64 0]) ?_ rfl ?_
    · exact results_cell_two (fn := Try.f9) (p := 2) (q := 3) (r := 4) (ty := 31) rfl _ _ (w.heap.size + 1) 31 #[.int .i64 a, .int .i64 4, .slice none 0 0, .int .i64 (8 * l)] (0, 0) _ rfl (setRow_same hrow3) Try.underlying31 rfl hi
    · refine ⟨_, rfl, ?_, ?_⟩
      · exact .inl ⟨rfl, rfl⟩
      · exact (hB'.out.trans (hb3.mono hB'.out.size)).trans (setRow_below _ _ _ (by omega))

set_option maxHeartbeats 4000000 in
set_option maxRecDepth 100000 in
theorem next_6 (a i : Int) (p : Bool) (b e : Int) (t : Bool) (l q : Int) (w : World) (hg : goodD a i b 6 e l q = true) : Calls Try.prog 9 #[.agg #[.int .i64 a, .int .i64 i, .bool p, .int .i64 b, .int .i64 6, .int .i64 e, .bool t, .int .i64 l, .int .i64 q]] w (NextP w a 1 [(0 % 256)] 0 true 0) := by
  have hi : (Try.prog.info? 31).map (·.size) = some 4 := by kernel_rfl
  go_enter Try.func9, Try.ntmps9
  go_wp2_with (first | (go_at_call 32; refine (Good_any a i p b 6 e t l q _).mono ?_; rintro e' w' ⟨rfl, rfl⟩; rw [hg]))
  have keyA : ∀ (W : World) (o : Obj), (fun w' => w'.cell? ⟨w.heap.size, 0, none⟩ = some (.int .i64 a) ∧ w'.cell? ⟨w.heap.size, 1, none⟩ = some (.int .i64 i) ∧ w'.cell? ⟨w.heap.size, 2, none⟩ = some (.bool p) ∧ w'.cell? ⟨w.heap.size, 3, none⟩ = some (.int .i64 b) ∧ w'.cell? ⟨w.heap.size, 4, none⟩ = some (.int .i64 6) ∧ w'.cell? ⟨w.heap.size, 5, none⟩ = some (.int .i64 e) ∧ w'.cell? ⟨w.heap.size, 6, none⟩ = some (.bool t) ∧ w'.cell? ⟨w.heap.size, 7, none⟩ = some (.int .i64 l) ∧ w'.cell? ⟨w.heap.size, 8, none⟩ = some (.int .i64 q) ∧ w.heap.size + 2 ≤ w'.heap.size) W → (fun w' => w'.cell? ⟨w.heap.size, 0, none⟩ = some (.int .i64 a) ∧ w'.cell? ⟨w.heap.size, 1, none⟩ = some (.int .i64 i) ∧ w'.cell? ⟨w.heap.size, 2, none⟩ = some (.bool p) ∧ w'.cell? ⟨w.heap.size, 3, none⟩ = some (.int .i64 b) ∧ w'.cell? ⟨w.heap.size, 4, none⟩ = some (.int .i64 6) ∧ w'.cell? ⟨w.heap.size, 5, none⟩ = some (.int .i64 e) ∧ w'.cell? ⟨w.heap.size, 6, none⟩ = some (.bool t) ∧ w'.cell? ⟨w.heap.size, 7, none⟩ = some (.int .i64 l) ∧ w'.cell? ⟨w.heap.size, 8, none⟩ = some (.int .i64 q) ∧ w.heap.size + 2 ≤ w'.heap.size) (W.alloc o) := by
    intro W o h
    have hd : ∀ j : Nat, (W.alloc o).cell? ⟨w.heap.size, j, none⟩ = W.cell? ⟨w.heap.size, j, none⟩ := fun j => World.cell?_alloc_lt _ _ _ (Nat.lt_of_lt_of_le (by show w.heap.size < w.heap.size + 2; omega) h.2.2.2.2.2.2.2.2.2)
    refine ⟨(hd 0).trans h.1, (hd 1).trans h.2.1, (hd 2).trans h.2.2.1, (hd 3).trans h.2.2.2.1, (hd 4).trans h.2.2.2.2.1, (hd 5).trans h.2.2.2.2.2.1, (hd 6).trans h.2.2.2.2.2.2.1, (hd 7).trans h.2.2.2.2.2.2.2.1, (hd 8).trans h.2.2.2.2.2.2.2.2.1, Nat.le_trans h.2.2.2.2.2.2.2.2.2 (by rw [World.size_alloc]; omega)⟩
  have keyE : ∀ (W W2 : World), Below W.heap.size W W2 → (fun w' => w'.cell? ⟨w.heap.size, 0, none⟩ = some (.int .i64 a) ∧ w'.cell? ⟨w.heap.size, 1, none⟩ = some (.int .i64 i) ∧ w'.cell? ⟨w.heap.size, 2, none⟩ = some (.bool p) ∧ w'.cell? ⟨w.heap.size, 3, none⟩ = some (.int .i64 b) ∧ w'.cell? ⟨w.heap.size, 4, none⟩ = some (.int .i64 6) ∧ w'.cell? ⟨w.heap.size, 5, none⟩ = some (.int .i64 e) ∧ w'.cell? ⟨w.heap.size, 6, none⟩ = some (.bool t) ∧ w'.cell? ⟨w.heap.size, 7, none⟩ = some (.int .i64 l) ∧ w'.cell? ⟨w.heap.size, 8, none⟩ = some (.int .i64 q) ∧ w.heap.size + 2 ≤ w'.heap.size) W → (fun w' => w'.cell? ⟨w.heap.size, 0, none⟩ = some (.int .i64 a) ∧ w'.cell? ⟨w.heap.size, 1, none⟩ = some (.int .i64 i) ∧ w'.cell? ⟨w.heap.size, 2, none⟩ = some (.bool p) ∧ w'.cell? ⟨w.heap.size, 3, none⟩ = some (.int .i64 b) ∧ w'.cell? ⟨w.heap.size, 4, none⟩ = some (.int .i64 6) ∧ w'.cell? ⟨w.heap.size, 5, none⟩ = some (.int .i64 e) ∧ w'.cell? ⟨w.heap.size, 6, none⟩ = some (.bool t) ∧ w'.cell? ⟨w.heap.size, 7, none⟩ = some (.int .i64 l) ∧ w'.cell? ⟨w.heap.size, 8, none⟩ = some (.int .i64 q) ∧ w.heap.size + 2 ≤ w'.heap.size) W2 := by
    intro W W2 hb h
    have hd : ∀ j : Nat, W2.cell? ⟨w.heap.size, j, none⟩ = W.cell? ⟨w.heap.size, j, none⟩ := fun j => hb.cell (Nat.lt_of_lt_of_le (by show w.heap.size < w.heap.size + 2; omega) h.2.2.2.2.2.2.2.2.2)
    exact ⟨(hd 0).trans h.1, (hd 1).trans h.2.1, (hd 2).trans h.2.2.1, (hd 3).trans h.2.2.2.1, (hd 4).trans h.2.2.2.2.1, (hd 5).trans h.2.2.2.2.2.1, (hd 6).trans h.2.2.2.2.2.2.1, (hd 7).trans h.2.2.2.2.2.2.2.1, (hd 8).trans h.2.2.2.2.2.2.2.2.1, Nat.le_trans h.2.2.2.2.2.2.2.2.2 hb.size⟩
  have keyC : ∀ (W : World) (pa : Addr) (v : Value), pa.block ≠ w.heap.size → (fun w' => w'.cell? ⟨w.heap.size, 0, none⟩ = some (.int .i64 a) ∧ w'.cell? ⟨w.heap.size, 1, none⟩ = some (.int .i64 i) ∧ w'.cell? ⟨w.heap.size, 2, none⟩ = some (.bool p) ∧ w'.cell? ⟨w.heap.size, 3, none⟩ = some (.int .i64 b) ∧ w'.cell? ⟨w.heap.size, 4, none⟩ = some (.int .i64 6) ∧ w'.cell? ⟨w.heap.size, 5, none⟩ = some (.int .i64 e) ∧ w'.cell? ⟨w.heap.size, 6, none⟩ = some (.bool t) ∧ w'.cell? ⟨w.heap.size, 7, none⟩ = some (.int .i64 l) ∧ w'.cell? ⟨w.heap.size, 8, none⟩ = some (.int .i64 q) ∧ w.heap.size + 2 ≤ w'.heap.size) W → (fun w' => w'.cell? ⟨w.heap.size, 0, none⟩ = some (.int .i64 a) ∧ w'.cell? ⟨w.heap.size, 1, none⟩ = some (.int .i64 i) ∧ w'.cell? ⟨w.heap.size, 2, none⟩ = some (.bool p) ∧ w'.cell? ⟨w.heap.size, 3, none⟩ = some (.int .i64 b) ∧ w'.cell? ⟨w.heap.size, 4, none⟩ = some (.int .i64 6) ∧ w'.cell? ⟨w.heap.size, 5, none⟩ = some (.int .i64 e) ∧ w'.cell? ⟨w.heap.size, 6, none⟩ = some (.bool t) ∧ w'.cell? ⟨w.heap.size, 7, none⟩ = some (.int .i64 l) ∧ w'.cell? ⟨w.heap.size, 8, none⟩ = some (.int .i64 q) ∧ w.heap.size + 2 ≤ w'.heap.size) (W.setCell pa v) := by
    intro W pa v hp h
    have hd : ∀ j : Nat, (W.setCell pa v).cell? ⟨w.heap.size, j, none⟩ = W.cell? ⟨w.heap.size, j, none⟩ := fun j => World.cell?_setCell_far _ _ _ _ hp
    exact ⟨(hd 0).trans h.1, (hd 1).trans h.2.1, (hd 2).trans h.2.2.1, (hd 3).trans h.2.2.2.1, (hd 4).trans h.2.2.2.2.1, (hd 5).trans h.2.2.2.2.2.1, (hd 6).trans h.2.2.2.2.2.2.1, (hd 7).trans h.2.2.2.2.2.2.2.1, (hd 8).trans h.2.2.2.2.2.2.2.2.1, Nat.le_trans h.2.2.2.2.2.2.2.2.2 (by simp [World.setCell])⟩
  have keyC' := Lib.hid keyC
  clear keyC
  have keyA' := Lib.hid keyA
  have keyE' := Lib.hid keyE
  clear keyA keyE
  go_cut [3, 5] (fun v3 v5 wc => ∃ b2 n2 : Nat, v3 = .bool true ∧ v5 = .pointer (some ⟨b2, 0, none⟩) ∧ NextAt w wc a i p b 6 e t l q (.func (.func 67) #[] #[.pointer (some ⟨n2 + 13, 0, none⟩), .pointer (some ⟨n2 + 14, 0, none⟩)]) (.func (.func 70) #[] #[.pointer (some ⟨n2 + 15, 0, none⟩), .pointer (some ⟨n2 + 16, 0, none⟩)]) b2 n2)
  case first =>
    go_region_held3 (fun w' => w'.cell? ⟨w.heap.size, 0, none⟩ = some (.int .i64 a) ∧ w'.cell? ⟨w.heap.size, 1, none⟩ = some (.int .i64 i) ∧ w'.cell? ⟨w.heap.size, 2, none⟩ = some (.bool p) ∧ w'.cell? ⟨w.heap.size, 3, none⟩ = some (.int .i64 b) ∧ w'.cell? ⟨w.heap.size, 4, none⟩ = some (.int .i64 6) ∧ w'.cell? ⟨w.heap.size, 5, none⟩ = some (.int .i64 e) ∧ w'.cell? ⟨w.heap.size, 6, none⟩ = some (.bool t) ∧ w'.cell? ⟨w.heap.size, 7, none⟩ = some (.int .i64 l) ∧ w'.cell? ⟨w.heap.size, 8, none⟩ = some (.int .i64 q) ∧ w.heap.size + 2 ≤ w'.heap.size) (first | ((with_reducible refine keyA'.out _ _ ?_); with_reducible assumption) | ((with_reducible refine keyE'.out _ _ (by with_reducible assumption) ?_); with_reducible assumption) | (((with_reducible refine keyC'.out _ _ _ (by simp <;> omega) ?_); (with_reducible refine keyC'.out _ _ _ (by simp <;> omega) ?_)); with_reducible assumption) | (simp [*, World.cell?_alloc_lt, World.cell?_alloc_some, World.cell?_setCell_far])) (first | (go_at_call 33; ((with_reducible refine (table_tab _).mono ?_); rintro e' w2 ⟨n2, ht, rfl⟩; have hS2 := keyE'.out _ _ ht.below (by with_reducible assumption); have hc2 := fun b o h => ht.below.cell (p := ⟨b, o, none⟩) h; have hf2 := fun b o h => ht.below.frozen (p := ⟨b, o, none⟩) h; have hlk : (Instr.lookup 85 (.map (some (n2 + 1))) (.int .i64 6) true).run Try.prog w2 = .ok (.tuple #[.agg #[.func (.func 67) #[] #[.pointer (some ⟨n2 + 13, 0, none⟩), .pointer (some ⟨n2 + 14, 0, none⟩)], .func (.func 70) #[] #[.pointer (some ⟨n2 + 15, 0, none⟩), .pointer (some ⟨n2 + 16, 0, none⟩)]], .bool true]) w2 := look_row ht.map 6 5 _ true rfl; have hlk2 : ∀ o : Obj, (Instr.lookup 85 (.map (some (n2 + 1))) (.int .i64 6) true).run Try.prog (w2.alloc o) = .ok (.tuple #[.agg #[.func (.func 67) #[] #[.pointer (some ⟨n2 + 13, 0, none⟩), .pointer (some ⟨n2 + 14, 0, none⟩)], .func (.func 70) #[] #[.pointer (some ⟨n2 + 15, 0, none⟩), .pointer (some ⟨n2 + 16, 0, none⟩)]], .bool true]) (w2.alloc o) := fun o => look_row (heap_keep ht.map o) 6 5 _ true rfl)))
    all_goals go_wp2
    all_goals go_meet
    all_goals (have hsz2 := ht.size)
    all_goals (simp at hsz2)
    all_goals first
      | exact ⟨w2.heap.size, n2, rfl, rfl, nextAt_alloc hS2 ((ht.below.block _ (by simp <;> omega)).trans (heap3_1 _ _ _ _)) (((((Below.refl _ _).alloc (Nat.le_refl _) _).alloc (by simp <;> omega) _).alloc (by simp <;> omega) _).drew.trans (ht.below.mono (by simp <;> omega))) ht.objs (fun i cs t h => ht.top i (objs_lt h))⟩
      | exact ⟨w.heap.size + 1 + 1 + 1, n2, rfl, rfl, nextAt_set (f0 := .nilFunc) (g0 := .nilFunc) hS2 ((ht.below.block _ (by simp <;> omega)).trans (heap4_1 _ _ _ _ _)) ((((((Below.refl _ _).alloc (Nat.le_refl _) _).alloc (by simp <;> omega) _).alloc (by simp <;> omega) _).alloc (by simp <;> omega) _).drew.trans (ht.below.mono (by simp <;> omega))) ht.objs (by omega) (by omega) ((ht.below.cell (p := ⟨w.heap.size + 1 + 1 + 1, 0, none⟩) (by simp <;> omega)).trans (cell4_3 _ _ _ _ _ _ 0)) ((ht.below.cell (p := ⟨w.heap.size + 1 + 1 + 1, 1, none⟩) (by simp <;> omega)).trans (cell4_3 _ _ _ _ _ _ 1))⟩
      | trace_state
  case rest =>
    obtain ⟨b2, n2, rfl, rfl, hS, hrow, hB, hobj, hf, hgo⟩ := hcut
    obtain ⟨s0, s1, s2, s3, s4, s5, s6, s7, s8, hsz⟩ := hS
    have hx := hobj 13 _ _ rfl
    have hy := hobj 14 _ _ rfl
    have hz := hobj 12 _ _ rfl
    have hrow' := Lib.hid hrow
    have hB' := Lib.hid hB
    clear hobj hgo hrow hB
    go_wp2_with (first | (go_at_call 67; ((with_reducible refine (write1_always ⟨n2 + 13, 0, none⟩ ⟨n2 + 14, 0, none⟩ ⟨n2 + 12, 0, none⟩ a i p b 6 e t l q 1 0 _ hx hy hz).mono ?_); rintro e' w3 ⟨rfl, hb3, hv3⟩; have hrow3 := (hb3.block _ (by omega)).trans hrow'.out; have hi2 := hi)) | (refine wpList_store_row rfl 31 (.tmp 2) (.tmp 23) rfl (w.heap.size + 1) #[.int .i64 a, .int .i64 1, .slice (some ⟨wc.heap.size + 3, 0, none⟩) 1 1, .int .i64 0] rfl rfl 31 _ hrow3 hi2 rfl (by simp [Value.oneCell']) ?_))
    refine bodyPost_ret (v := .tuple #[.agg #[.int .i64 a, .int .i64 1, .slice (some ⟨wc.heap.size + 3, 0, none⟩) 1 1, .int .i64 0], .bool true, .int .i64 0]) ?_ rfl ?_
    · exact results_cell_two (fn := Try.f9) (p := 2) (q := 3) (r := 4) (ty := 31) rfl _ _ (w.heap.size + 1) 31 #[.int .i64 a, .int .i64 1, .slice (some ⟨wc.heap.size + 3, 0, none⟩) 1 1, .int .i64 0] (0, 0) _ rfl (setRow_same hrow3) Try.underlying31 rfl hi
    · refine ⟨_, rfl, ?_, ?_⟩
      · exact .inr ⟨_, _, rfl, rfl, by omega, (setRow_other _ _ _ _ (by omega)).trans hv3⟩
      · exact (hB'.out.trans (hb3.mono hB'.out.size)).trans (setRow_below _ _ _ (by omega))

set_option maxHeartbeats 4000000 in
set_option maxRecDepth 100000 in
theorem next_7 (a i : Int) (p : Bool) (b e : Int) (t : Bool) (l q : Int) (w : World) (hg : goodD a i b 7 e l q = true) : Calls Try.prog 9 #[.agg #[.int .i64 a, .int .i64 i, .bool p, .int .i64 b, .int .i64 7, .int .i64 e, .bool t, .int .i64 l, .int .i64 q]] w (NextP w a 5 [(182 % 256)] 0 true 0) := by
  have hi : (Try.prog.info? 31).map (·.size) = some 4 := by kernel_rfl
  go_enter Try.func9, Try.ntmps9
  go_wp2_with (first | (go_at_call 32; refine (Good_any a i p b 7 e t l q _).mono ?_; rintro e' w' ⟨rfl, rfl⟩; rw [hg]))
  have keyA : ∀ (W : World) (o : Obj), (fun w' => w'.cell? ⟨w.heap.size, 0, none⟩ = some (.int .i64 a) ∧ w'.cell? ⟨w.heap.size, 1, none⟩ = some (.int .i64 i) ∧ w'.cell? ⟨w.heap.size, 2, none⟩ = some (.bool p) ∧ w'.cell? ⟨w.heap.size, 3, none⟩ = some (.int .i64 b) ∧ w'.cell? ⟨w.heap.size, 4, none⟩ = some (.int .i64 7) ∧ w'.cell? ⟨w.heap.size, 5, none⟩ = some (.int .i64 e) ∧ w'.cell? ⟨w.heap.size, 6, none⟩ = some (.bool t) ∧ w'.cell? ⟨w.heap.size, 7, none⟩ = some (.int .i64 l) ∧ w'.cell? ⟨w.heap.size, 8, none⟩ = some (.int .i64 q) ∧ w.heap.size + 2 ≤ w'.heap.size) W → (fun w' => w'.cell? ⟨w.heap.size, 0, none⟩ = some (.int .i64 a) ∧ w'.cell? ⟨w.heap.size, 1, none⟩ = some (.int .i64 i) ∧ w'.cell? ⟨w.heap.size, 2, none⟩ = some (.bool p) ∧ w'.cell? ⟨w.heap.size, 3, none⟩ = some (.int .i64 b) ∧ w'.cell? ⟨w.heap.size, 4, none⟩ = some (.int .i64 7) ∧ w'.cell? ⟨w.heap.size, 5, none⟩ = some (.int .i64 e) ∧ w'.cell? ⟨w.heap.size, 6, none⟩ = some (.bool t) ∧ w'.cell? ⟨w.heap.size, 7, none⟩ = some (.int .i64 l) ∧ w'.cell? ⟨w.heap.size, 8, none⟩ = some (.int .i64 q) ∧ w.heap.size + 2 ≤ w'.heap.size) (W.alloc o) := by
    intro W o h
    have hd : ∀ j : Nat, (W.alloc o).cell? ⟨w.heap.size, j, none⟩ = W.cell? ⟨w.heap.size, j, none⟩ := fun j => World.cell?_alloc_lt _ _ _ (Nat.lt_of_lt_of_le (by show w.heap.size < w.heap.size + 2; omega) h.2.2.2.2.2.2.2.2.2)
    refine ⟨(hd 0).trans h.1, (hd 1).trans h.2.1, (hd 2).trans h.2.2.1, (hd 3).trans h.2.2.2.1, (hd 4).trans h.2.2.2.2.1, (hd 5).trans h.2.2.2.2.2.1, (hd 6).trans h.2.2.2.2.2.2.1, (hd 7).trans h.2.2.2.2.2.2.2.1, (hd 8).trans h.2.2.2.2.2.2.2.2.1, Nat.le_trans h.2.2.2.2.2.2.2.2.2 (by rw [World.size_alloc]; omega)⟩
  have keyE : ∀ (W W2 : World), Below W.heap.size W W2 → (fun w' => w'.cell? ⟨w.heap.size, 0, none⟩ = some (.int .i64 a) ∧ w'.cell? ⟨w.heap.size, 1, none⟩ = some (.int .i64 i) ∧ w'.cell? ⟨w.heap.size, 2, none⟩ = some (.bool p) ∧ w'.cell? ⟨w.heap.size, 3, none⟩ = some (.int .i64 b) ∧ w'.cell? ⟨w.heap.size, 4, none⟩ = some (.int .i64 7) ∧ w'.cell? ⟨w.heap.size, 5, none⟩ = some (.int .i64 e) ∧ w'.cell? ⟨w.heap.size, 6, none⟩ = some (.bool t) ∧ w'.cell? ⟨w.heap.size, 7, none⟩ = some (.int .i64 l) ∧ w'.cell? ⟨w.heap.size, 8, none⟩ = some (.int .i64 q) ∧ w.heap.size + 2 ≤ w'.heap.size) W → (fun w' => w'.cell? ⟨w.heap.size, 0, none⟩ = some (.int .i64 a) ∧ w'.cell? ⟨w.heap.size, 1, none⟩ = some (.int .i64 i) ∧ w'.cell? ⟨w.heap.size, 2, none⟩ = some (.bool p) ∧ w'.cell? ⟨w.heap.size, 3, none⟩ = some (.int .i64 b) ∧ w'.cell? ⟨w.heap.size, 4, none⟩ = some (.int .i64 7) ∧ w'.cell? ⟨w.heap.size, 5, none⟩ = some (.int .i64 e) ∧ w'.cell? ⟨w.heap.size, 6, none⟩ = some (.bool t) ∧ w'.cell? ⟨w.heap.size, 7, none⟩ = some (.int .i64 l) ∧ w'.cell? ⟨w.heap.size, 8, none⟩ = some (.int .i64 q) ∧ w.heap.size + 2 ≤ w'.heap.size) W2 := by
    intro W W2 hb h
    have hd : ∀ j : Nat, W2.cell? ⟨w.heap.size, j, none⟩ = W.cell? ⟨w.heap.size, j, none⟩ := fun j => hb.cell (Nat.lt_of_lt_of_le (by show w.heap.size < w.heap.size + 2; omega) h.2.2.2.2.2.2.2.2.2)
    exact ⟨(hd 0).trans h.1, (hd 1).trans h.2.1, (hd 2).trans h.2.2.1, (hd 3).trans h.2.2.2.1, (hd 4).trans h.2.2.2.2.1, (hd 5).trans h.2.2.2.2.2.1, (hd 6).trans h.2.2.2.2.2.2.1, (hd 7).trans h.2.2.2.2.2.2.2.1, (hd 8).trans h.2.2.2.2.2.2.2.2.1, Nat.le_trans h.2.2.2.2.2.2.2.2.2 hb.size⟩
  have keyC : ∀ (W : World) (pa : Addr) (v : Value), pa.block ≠ w.heap.size → (fun w' => w'.cell? ⟨w.heap.size, 0, none⟩ = some (.int .i64 a) ∧ w'.cell? ⟨w.heap.size, 1, none⟩ = some (.int .i64 i) ∧ w'.cell? ⟨w.heap.size, 2, none⟩ = some (.bool p) ∧ w'.cell? ⟨w.heap.size, 3, none⟩ = some (.int .i64 b) ∧ w'.cell? ⟨w.heap.size, 4, none⟩ = some (.int .i64 7) ∧ w'.cell? ⟨w.heap.size, 5, none⟩ = some (.int .i64 e) ∧ w'.cell? ⟨w.heap.size, 6, none⟩ = some (.bool t) ∧ w'.cell? ⟨w.heap.size, 7, none⟩ = some (.int .i64 l) ∧ w'.cell? ⟨w.heap.size, 8, none⟩ = some (.int .i64 q) ∧ w.heap.size + 2 ≤ w'.heap.size) W → (fun w' => w'.cell? ⟨w.heap.size, 0, none⟩ = some (.int .i64 a) ∧ w'.cell? ⟨w.heap.size, 1, none⟩ = some (.int .i64 i) ∧ w'.cell? ⟨w.heap.size, 2, none⟩ = some (.bool p) ∧ w'.cell? ⟨w.heap.size, 3, none⟩ = some (.int .i64 b) ∧ w'.cell? ⟨w.heap.size, 4, none⟩ = some (.int .i64 7) ∧ w'.cell? ⟨w.heap.size, 5, none⟩ = some (.int .i64 e) ∧ w'.cell? ⟨w.heap.size, 6, none⟩ = some (.bool t) ∧ w'.cell? ⟨w.heap.size, 7, none⟩ = some (.int .i64 l) ∧ w'.cell? ⟨w.heap.size, 8, none⟩ = some (.int .i64 q) ∧ w.heap.size + 2 ≤ w'.heap.size) (W.setCell pa v) := by
    intro W pa v hp h
    have hd : ∀ j : Nat, (W.setCell pa v).cell? ⟨w.heap.size, j, none⟩ = W.cell? ⟨w.heap.size, j, none⟩ := fun j => World.cell?_setCell_far _ _ _ _ hp
    exact ⟨(hd 0).trans h.1, (hd 1).trans h.2.1, (hd 2).trans h.2.2.1, (hd 3).trans h.2.2.2.1, (hd 4).trans h.2.2.2.2.1, (hd 5).trans h.2.2.2.2.2.1, (hd 6).trans h.2.2.2.2.2.2.1, (hd 7).trans h.2.2.2.2.2.2.2.1, (hd 8).trans h.2.2.2.2.2.2.2.2.1, Nat.le_trans h.2.2.2.2.2.2.2.2.2 (by simp [World.setCell])⟩
  have keyC' := Lib.hid keyC
  clear keyC
  have keyA' := Lib.hid keyA
  have keyE' := Lib.hid keyE
  clear keyA keyE
  go_cut [3, 5] (fun v3 v5 wc => ∃ b2 n2 : Nat, v3 = .bool true ∧ v5 = .pointer (some ⟨b2, 0, none⟩) ∧ NextAt w wc a i p b 7 e t l q (.func (.func 67) #[] #[.pointer (some ⟨n2 + 18, 0, none⟩), .pointer (some ⟨n2 + 19, 0, none⟩)]) (.func (.func 59) #[] #[]) b2 n2)
  case first =>
    go_region_held3 (fun w' => w'.cell? ⟨w.heap.size, 0, none⟩ = some (.int .i64 a) ∧ w'.cell? ⟨w.heap.size, 1, none⟩ = some (.int .i64 i) ∧ w'.cell? ⟨w.heap.size, 2, none⟩ = some (.bool p) ∧ w'.cell? ⟨w.heap.size, 3, none⟩ = some (.int .i64 b) ∧ w'.cell? ⟨w.heap.size, 4, none⟩ = some (.int .i64 7) ∧ w'.cell? ⟨w.heap.size, 5, none⟩ = some (.int .i64 e) ∧ w'.cell? ⟨w.heap.size, 6, none⟩ = some (.bool t) ∧ w'.cell? ⟨w.heap.size, 7, none⟩ = some (.int .i64 l) ∧ w'.cell? ⟨w.heap.size, 8, none⟩ = some (.int .i64 q) ∧ w.heap.size + 2 ≤ w'.heap.size) (first | ((with_reducible refine keyA'.out _ _ ?_); with_reducible assumption) | ((with_reducible refine keyE'.out _ _ (by with_reducible assumption) ?_); with_reducible assumption) | (((with_reducible refine keyC'.out _ _ _ (by simp <;> omega) ?_); (with_reducible refine keyC'.out _ _ _ (by simp <;> omega) ?_)); with_reducible assumption) | (simp [*, World.cell?_alloc_lt, World.cell?_alloc_some, World.cell?_setCell_far])) (first | (go_at_call 33; ((with_reducible refine (table_tab _).mono ?_); rintro e' w2 ⟨n2, ht, rfl⟩; have hS2 := keyE'.out _ _ ht.below (by with_reducible assumption); have hc2 := fun b o h => ht.below.cell (p := ⟨b, o, none⟩) h; have hf2 := fun b o h => ht.below.frozen (p := ⟨b, o, none⟩) h; have hlk : (Instr.lookup 85 (.map (some (n2 + 1))) (.int .i64 7) true).run Try.prog w2 = .ok (.tuple #[.agg #[.func (.func 67) #[] #[.pointer (some ⟨n2 + 18, 0, none⟩), .pointer (some ⟨n2 + 19, 0, none⟩)], .func (.func 59) #[] #[]], .bool true]) w2 := look_row ht.map 7 6 _ true rfl; have hlk2 : ∀ o : Obj, (Instr.lookup 85 (.map (some (n2 + 1))) (.int .i64 7) true).run Try.prog (w2.alloc o) = .ok (.tuple #[.agg #[.func (.func 67) #[] #[.pointer (some ⟨n2 + 18, 0, none⟩), .pointer (some ⟨n2 + 19, 0, none⟩)], .func (.func 59) #[] #[]], .bool true]) (w2.alloc o) := fun o => look_row (heap_keep ht.map o) 7 6 _ true rfl)))
    all_goals go_wp2
    all_goals go_meet
    all_goals (have hsz2 := ht.size)
    all_goals (simp at hsz2)
    all_goals first
      | exact ⟨w2.heap.size, n2, rfl, rfl, nextAt_alloc hS2 ((ht.below.block _ (by simp <;> omega)).trans (heap3_1 _ _ _ _)) (((((Below.refl _ _).alloc (Nat.le_refl _) _).alloc (by simp <;> omega) _).alloc (by simp <;> omega) _).drew.trans (ht.below.mono (by simp <;> omega))) ht.objs (fun i cs t h => ht.top i (objs_lt h))⟩
      | exact ⟨w.heap.size + 1 + 1 + 1, n2, rfl, rfl, nextAt_set (f0 := .nilFunc) (g0 := .nilFunc) hS2 ((ht.below.block _ (by simp <;> omega)).trans (heap4_1 _ _ _ _ _)) ((((((Below.refl _ _).alloc (Nat.le_refl _) _).alloc (by simp <;> omega) _).alloc (by simp <;> omega) _).alloc (by simp <;> omega) _).drew.trans (ht.below.mono (by simp <;> omega))) ht.objs (by omega) (by omega) ((ht.below.cell (p := ⟨w.heap.size + 1 + 1 + 1, 0, none⟩) (by simp <;> omega)).trans (cell4_3 _ _ _ _ _ _ 0)) ((ht.below.cell (p := ⟨w.heap.size + 1 + 1 + 1, 1, none⟩) (by simp <;> omega)).trans (cell4_3 _ _ _ _ _ _ 1))⟩
      | trace_state
  case rest =>
    obtain ⟨b2, n2, rfl, rfl, hS, hrow, hB, hobj, hf, hgo⟩ := hcut
    obtain ⟨s0, s1, s2, s3, s4, s5, s6, s7, s8, hsz⟩ := hS
    have hx := hobj 18 _ _ rfl
    have hy := hobj 19 _ _ rfl
    have hz := hobj 17 _ _ rfl
    have hrow' := Lib.hid hrow
    have hB' := Lib.hid hB
    clear hobj hgo hrow hB
    go_wp2_with (first | (go_at_call 67; ((with_reducible refine (write1_always ⟨n2 + 18, 0, none⟩ ⟨n2 + 19, 0, none⟩ ⟨n2 + 17, 0, none⟩ a i p b 7 e t l q 5 182 _ hx hy hz).mono ?_); rintro e' w3 ⟨rfl, hb3, hv3⟩; have hrow3 := (hb3.block _ (by omega)).trans hrow'.out; have hi2 := hi)) | (refine wpList_store_row rfl 31 (.tmp 2) (.tmp 23) rfl (w.heap.size + 1) #[.int .i64 a, .int .i64 5, .slice (some ⟨wc.heap.size + 3, 0, none⟩) 1 1, .int .i64 0] rfl rfl 31 _ hrow3 hi2 rfl (by simp [Value.oneCell']) ?_))
    refine bodyPost_ret (v := .tuple #[.agg #[.int .i64 a, .int .i64 5, .slice (some ⟨wc.heap.size + 3, 0, none⟩) 1 1, .int .i64 0], .bool true, .int .i64 0]) ?_ rfl ?_
    · exact results_cell_two (fn := Try.f9) (p := 2) (q := 3) (r := 4) (ty := 31) rfl _ _ (w.heap.size + 1) 31 #[.int .i64 a, .int .i64 5, .slice (some ⟨wc.heap.size + 3, 0, none⟩) 1 1, .int .i64 0] (0, 0) _ rfl (setRow_same hrow3) Try.underlying31 rfl hi
    · refine ⟨_, rfl, ?_, ?_⟩
      · exact .inr ⟨_, _, rfl, rfl, by omega, (setRow_other _ _ _ _ (by omega)).trans hv3⟩
      · exact (hB'.out.trans (hb3.mono hB'.out.size)).trans (setRow_below _ _ _ (by omega))

end Go.Proofs.Ytnlmbejkemkkoaa.Dr
