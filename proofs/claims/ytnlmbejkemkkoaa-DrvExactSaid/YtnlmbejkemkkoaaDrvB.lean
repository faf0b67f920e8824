/-
  Walk of the drivers' table.
  No conditions.
-/
import Derived.Test.YtnlmbejkemkkoaaDrvA
import Derived.Carry
import Derived.MapKept
namespace Go.Proofs.Ytnlmbejkemkkoaa.Dr
open Go.RowKit
set_option linter.unusedSimpArgs false
set_option linter.unusedVariables false
/-- A world with more blocks behind its own. -/
def ext (w : World) (xs : List Obj) : World := { w with heap := w.heap ++ xs.toArray }
theorem ext_nil (w : World) : ext w [] = w := by
  unfold ext
  simp
theorem ext_size (w : World) (xs : List Obj) : (ext w xs).heap.size = w.heap.size + xs.length := by
  unfold ext
  simp
theorem ext_alloc (w : World) (xs : List Obj) (o : Obj) : (ext w xs).alloc o = ext w (xs ++ [o]) := by
  unfold ext World.alloc
  simp
theorem ext_heap (w : World) (xs : List Obj) (i : Nat) : (ext w xs).heap[w.heap.size + i]? = xs[i]? := by
  unfold ext
  rw [Array.getElem?_append_right (Nat.le_add_right _ _), Nat.add_sub_cancel_left]
  simp
theorem ext_below (w : World) (xs : List Obj) : Below w.heap.size w (ext w xs) :=
  ⟨rfl, rfl, rfl, by rw [ext_size]; omega, fun k hk => by unfold ext; rw [Array.getElem?_append_left hk]⟩
theorem ext_set (w : World) (xs : List Obj) (i : Nat) (o : Obj) : { ext w xs with heap := (ext w xs).heap.setIfInBounds (w.heap.size + i) o } = ext w (xs.set i o) := by
  unfold ext
  simp only
  congr 1
  apply Array.ext_getElem?
  intro j
  rw [Array.getElem?_setIfInBounds]
  by_cases hj : j < w.heap.size
  · rw [if_neg (by omega), Array.getElem?_append_left hj, Array.getElem?_append_left hj]
  · have hl := Nat.le_of_not_lt hj
    rw [Array.getElem?_append_right hl, Array.getElem?_append_right hl]
    by_cases he : w.heap.size + i = j
    · subst he
      simp only [Nat.add_sub_cancel_left, if_true]
      by_cases hi : i < xs.length
      · rw [if_pos (by simp; omega)]
        simp [hi]
      · rw [if_neg (by simp; omega)]
        simp [Nat.le_of_not_lt hi]
    · rw [if_neg he]
      simp only [List.getElem?_toArray, List.getElem?_set]
      rw [if_neg (by omega)]
theorem run_insert_ext {P : Program} (w : World) (xs : List Obj) (i : Nat) (t kt et : TypeId) (es : Array MapEntry) (clock : Nat) (n : Int) (val : Value) (hm : P.underlying t = some (.map kt et)) (hk : P.underlying kt = some (.int .i64)) (hb : xs[i]? = some (.map es clock)) (hf : Instr.findNow (.int .i64) (.int .i64 n) es.toList 0 = some none) :
    (Instr.mapUpdate t (.map (some (w.heap.size + i))) (.int .i64 n) val).run P (ext w xs) = .ok () (ext w (xs.set i (.map (es.push { key := .int .i64 n, val := val, born := clock }) (clock + 1)))) := by
  have hb' : (ext w xs).heap[w.heap.size + i]? = some (.map es clock) := by rw [ext_heap]; exact hb
  unfold Instr.mapUpdate
  simp only [Sem.run_bind, run_underlying hm, Result.andThen_ok, MapKept.run_getObj_map hb', MapKept.run_checkKey hk (show MapKept.IsKey (.int .i64) (.int .i64 n) from rfl), MapKept.run_findKey hk hf, MapKept.run_setObj_map _ hb', ext_set]
theorem wpList_insert_ext {P : Program} {ops : Array Oper} {rest : List Oper} {o : Oper} {a : Act} {Q : Exit → Act → World → Prop} (hg : o.guard = none) (w : World) (xs : List Obj) (i : Nat) (t kt et : TypeId) (m x v : Operand) (hop : o.op = Op.insert t m x v) (es : Array MapEntry) (clock : Nat) (n : Int)
    (hm : P.underlying t = some (.map kt et)) (hk : P.underlying kt = some (.int .i64)) (hme : a.eval m = .map (some (w.heap.size + i))) (hx : a.eval x = .int .i64 n) (hb : xs[i]? = some (.map es clock)) (hf : Instr.findNow (.int .i64) (.int .i64 n) es.toList 0 = some none)
    (h : wpList P ops Q rest (a.put o.dst undef) (ext w (xs.set i (.map (es.push { key := .int .i64 n, val := a.eval v, born := clock }) (clock + 1))))) : wpList P ops Q (o :: rest) a (ext w xs) :=
  wpList_plain hg fun K' hK' => by
    unfold Oper.wp
    simp [execOp, hop, hme, hx, run_insert_ext w xs i t kt et es clock n (a.eval v) hm hk hb hf, Result.andThen]
    exact hK' _ _ h
theorem run_lookup_hit {P : Program} (W : World) (r : Nat) (t kt et : TypeId) (es : Array MapEntry) (clock : Nat) (n : Int) (i : Nat) (val : Value) (ok : Bool) (hm : P.underlying t = some (.map kt et)) (hk : P.underlying kt = some (.int .i64)) (hb : W.heap[r]? = some (.map es clock)) (hf : Instr.findNow (.int .i64) (.int .i64 n) es.toList 0 = some (some (i, val))) :
    (Instr.lookup t (.map (some r)) (.int .i64 n) ok).run P W = .ok (if ok then .tuple #[val, .bool true] else val) W := by
  unfold Instr.lookup
  simp only [Sem.run_bind, run_underlying hm, Result.andThen_ok, MapKept.run_getObj_map hb, MapKept.run_checkKey hk (show MapKept.IsKey (.int .i64) (.int .i64 n) from rfl), MapKept.run_findKey hk hf, Sem.run_pure]
theorem run_lookup_miss {P : Program} (W : World) (r : Nat) (t kt et : TypeId) (es : Array MapEntry) (clock : Nat) (n : Int) (zv : Value) (ok : Bool) (hm : P.underlying t = some (.map kt et)) (hk : P.underlying kt = some (.int .i64)) (hb : W.heap[r]? = some (.map es clock)) (hf : Instr.findNow (.int .i64) (.int .i64 n) es.toList 0 = some none) (hz : (zeroValue et).run P W = .ok zv W) :
    (Instr.lookup t (.map (some r)) (.int .i64 n) ok).run P W = .ok (if ok then .tuple #[zv, .bool false] else zv) W := by
  unfold Instr.lookup
  simp only [Sem.run_bind, run_underlying hm, Result.andThen_ok, MapKept.run_getObj_map hb, MapKept.run_checkKey hk (show MapKept.IsKey (.int .i64) (.int .i64 n) from rfl), MapKept.run_findKey hk hf, Sem.run_pure, hz]
theorem run_makeMap_ext {P : Program} (t : TypeId) (w : World) (xs : List Obj) : (Instr.makeMap t none).run P (ext w xs) = .ok (.map (some (w.heap.size + xs.length))) (ext w (xs ++ [.map #[] 0])) := by
  rw [run_makeMap, ext_size, ext_alloc]
theorem always_ext (n : Int) (w : World) (xs : List Obj) : Calls Try.prog 50 #[.int .i64 n] (ext w xs) fun e w' => e = .returned (.func (.func 65) #[] #[.pointer (some ⟨w.heap.size + xs.length, 0, none⟩)]) ∧ w' = ext w (xs ++ [.cells #[.int .i64 n] 3]) :=
  (always_any n (ext w xs)).mono fun e w' ⟨h1, h2⟩ => by rw [ext_size] at h1; rw [ext_alloc] at h2; exact ⟨h1, h2⟩
theorem read_ext (n : Int) (fn : Fn) (fi ca : Array Value) (w : World) (xs : List Obj) : Calls Try.prog 51 #[.int .i64 n, .func fn fi ca] (ext w xs) fun e w' => e = .returned (.func (.func 66) #[] #[.pointer (some ⟨w.heap.size + xs.length, 0, none⟩), .pointer (some ⟨w.heap.size + (xs.length + 1), 0, none⟩)]) ∧ w' = ext w (xs ++ [.cells #[.int .i64 n] 3, .cells #[.func fn fi ca] 119]) :=
  (read_any n fn fi ca (ext w xs)).mono fun e w' ⟨h1, h2⟩ => by rw [ext_size] at h1; rw [ext_alloc, ext_alloc, List.append_assoc] at h2; exact ⟨h1, h2⟩
theorem write_ext (n : Int) (fn : Fn) (fi ca : Array Value) (w : World) (xs : List Obj) : Calls Try.prog 53 #[.int .i64 n, .func fn fi ca] (ext w xs) fun e w' => e = .returned (.func (.func 67) #[] #[.pointer (some ⟨w.heap.size + xs.length, 0, none⟩), .pointer (some ⟨w.heap.size + (xs.length + 1), 0, none⟩)]) ∧ w' = ext w (xs ++ [.cells #[.int .i64 n] 3, .cells #[.func fn fi ca] 119]) :=
  (write_any n fn fi ca (ext w xs)).mono fun e w' ⟨h1, h2⟩ => by rw [ext_size] at h1; rw [ext_alloc, ext_alloc, List.append_assoc] at h2; exact ⟨h1, h2⟩
theorem becomes_ext (n : Int) (b : Bool) (w : World) (xs : List Obj) : Calls Try.prog 58 #[.int .i64 n, .bool b] (ext w xs) fun e w' => e = .returned (.func (.func 70) #[] #[.pointer (some ⟨w.heap.size + xs.length, 0, none⟩), .pointer (some ⟨w.heap.size + (xs.length + 1), 0, none⟩)]) ∧ w' = ext w (xs ++ [.cells #[.int .i64 n] 3, .cells #[.bool b] 4]) :=
  (becomes_any n b (ext w xs)).mono fun e w' ⟨h1, h2⟩ => by rw [ext_size] at h1; rw [ext_alloc, ext_alloc, List.append_assoc] at h2; exact ⟨h1, h2⟩
def row1 (n : Nat) : Value := .agg #[.func (.func 66) #[] #[.pointer (some ⟨n + 2, 0, none⟩), .pointer (some ⟨n + 3, 0, none⟩)], .func (.func 52) #[] #[]]
def row2 (n : Nat) : Value := .agg #[.func (.func 67) #[] #[.pointer (some ⟨n + 4, 0, none⟩), .pointer (some ⟨n + 5, 0, none⟩)], .func (.func 52) #[] #[]]
def row3 (n : Nat) : Value := .agg #[.func (.func 67) #[] #[.pointer (some ⟨n + 6, 0, none⟩), .pointer (some ⟨n + 7, 0, none⟩)], .func (.func 52) #[] #[]]
def row4 (n : Nat) : Value := .agg #[.func (.func 66) #[] #[.pointer (some ⟨n + 8, 0, none⟩), .pointer (some ⟨n + 9, 0, none⟩)], .func (.func 55) #[] #[]]
def row5 (n : Nat) : Value := .agg #[.func (.func 66) #[] #[.pointer (some ⟨n + 10, 0, none⟩), .pointer (some ⟨n + 11, 0, none⟩)], .func (.func 57) #[] #[]]
def row6 (n : Nat) : Value := .agg #[.func (.func 67) #[] #[.pointer (some ⟨n + 13, 0, none⟩), .pointer (some ⟨n + 14, 0, none⟩)], .func (.func 70) #[] #[.pointer (some ⟨n + 15, 0, none⟩), .pointer (some ⟨n + 16, 0, none⟩)]]
def row7 (n : Nat) : Value := .agg #[.func (.func 67) #[] #[.pointer (some ⟨n + 18, 0, none⟩), .pointer (some ⟨n + 19, 0, none⟩)], .func (.func 59) #[] #[]]
def tabRows (n : Nat) : Array MapEntry := #[{ key := .int .i64 1, val := row1 n, born := 0 }, { key := .int .i64 2, val := row2 n, born := 1 }, { key := .int .i64 3, val := row3 n, born := 2 }, { key := .int .i64 4, val := row4 n, born := 3 }, { key := .int .i64 5, val := row5 n, born := 4 }, { key := .int .i64 6, val := row6 n, born := 5 }, { key := .int .i64 7, val := row7 n, born := 6 }]
def tabObjs (n : Nat) : List Obj := [.cells #[.int .i64 1] 3, .map (tabRows n) 7, .cells #[.int .i64 0] 3, .cells #[.func (.func 65) #[] #[.pointer (some ⟨n, 0, none⟩)]] 119, .cells #[.int .i64 2] 3, .cells #[.func (.func 54) #[] #[]] 119, .cells #[.int .i64 1] 3, .cells #[.func (.func 65) #[] #[.pointer (some ⟨n, 0, none⟩)]] 119, .cells #[.int .i64 3] 3, .cells #[.func (.func 65) #[] #[.pointer (some ⟨n, 0, none⟩)]] 119, .cells #[.int .i64 4] 3, .cells #[.func (.func 56) #[] #[]] 119, .cells #[.int .i64 0] 3, .cells #[.int .i64 1] 3, .cells #[.func (.func 65) #[] #[.pointer (some ⟨n + 12, 0, none⟩)]] 119, .cells #[.int .i64 0] 3, .cells #[.bool false] 4, .cells #[.int .i64 182] 3, .cells #[.int .i64 5] 3, .cells #[.func (.func 65) #[] #[.pointer (some ⟨n + 17, 0, none⟩)]] 119]
set_option maxHeartbeats 4000000 in
theorem table_any (w : World) : Calls Try.prog 33 #[] w fun e w' => e = .returned (.map (some (w.heap.size + 1))) ∧ w' = ext w (tabObjs w.heap.size) := by
  suffices h : Calls Try.prog 33 #[] (ext w []) fun e w' => e = .returned (.map (some (w.heap.size + 1))) ∧ w' = ext w (tabObjs w.heap.size) by
    rw [ext_nil] at h
    exact h
  have hmm := fun xs => run_makeMap_ext (P := Try.prog) 85 w xs
  go_enter Try.func33, Try.ntmps33
  go_wp2_with (first | (go_at_call 50; refine (always_ext _ w _).mono ?_; rintro e w' ⟨rfl, rfl⟩) | (go_at_call 51; refine (read_ext _ _ _ _ w _).mono ?_; rintro e w' ⟨rfl, rfl⟩) | (go_at_call 53; refine (write_ext _ _ _ _ w _).mono ?_; rintro e w' ⟨rfl, rfl⟩) | (go_at_call 58; refine (becomes_ext _ _ w _).mono ?_; rintro e w' ⟨rfl, rfl⟩) | (refine wpList_insert_ext rfl w _ 1 _ _ _ _ _ _ rfl _ _ _ Try.underlying85 Try.underlying3 rfl rfl rfl rfl ?_))
  go_ret
  exact ⟨rfl, rfl⟩
end Go.Proofs.Ytnlmbejkemkkoaa.Dr
