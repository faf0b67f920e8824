/-
  Package ring at api.Raw: its blocks; Len, place.
  No conditions.
-/
import Derived.Test.YtpolofolibabiaaProg
import Derived.Test.YtpolofolibabiaaSqz
import Derived.Test.YtpolofolibabiaaChan
import Derived.Conc.LoneSelectN
import Derived.Test.YtpolofolibabiaaWWords
import Derived.Test.YtpolofolibabiaaWLast
import Derived.Test.YtpolofolibabiaaWMore
namespace Go.Proofs.Ytpolofolibabiaa.Bs
open Go Go.RowKit Go.Lib Go.Proofs.YtpolofolibabiaaW.PrintWords Go.Proofs.YtpolofolibabiaaW.PrintLast Go.Proofs.YtpolofolibabiaaW.PrintMore
set_option linter.unusedVariables false
set_option linter.unusedSimpArgs false
structure Rw where
  x : Int
  y : Int
  z : Int
  t : Int
instance : Inhabited Rw := ⟨⟨0, 0, 0, 0⟩⟩
def enc (r : Rw) : List Value := [.int .i64 r.x, .int .i64 r.y, .int .i64 r.z, .int .i64 r.t]
def encV (r : Rw) : Value := .agg #[.int .i64 r.x, .int .i64 r.y, .int .i64 r.z, .int .i64 r.t]
def flat (E : List Rw) : List Value := E.flatMap enc
theorem enc_len (x : Rw) : (enc x).length = 4 := rfl
theorem flat_len (E : List Rw) : (flat E).length = E.length * 4 := by
  induction E with
  | nil => rfl
  | cons x r ih => simp only [flat, List.flatMap_cons, List.length_append, List.length_cons] at *; rw [ih, enc_len]; omega
theorem flat_app (E F : List Rw) : flat (E ++ F) = flat E ++ flat F := List.flatMap_append
theorem flat_get (E : List Rw) (j : Nat) (hj : j < E.length) (k : Nat) (u : Value) (hu : (enc E[j]!)[k]? = some u) : (flat E)[j * 4 + k]? = some u := by
  have hk : k < 4 := by have := (List.getElem?_eq_some_iff.1 hu).1; rwa [enc_len] at this
  have h1 : E = E.take j ++ E[j]! :: E.drop (j + 1) := by
    rw [getElem!_pos E j hj]
    simp
  rw [h1, flat_app, List.getElem?_append_right (by rw [flat_len, List.length_take]; omega), flat_len, List.length_take, show j * 4 + k - min j E.length * 4 = k by omega]
  rw [show flat (E[j]! :: E.drop (j + 1)) = enc E[j]! ++ flat (E.drop (j + 1)) from rfl, List.getElem?_append_left (by rw [enc_len]; exact hk)]
  exact hu
theorem flat_set (E : List Rw) (i : Nat) (hi : i < E.length) (x : Rw) : flat (E.set i x) = (flat E).take (i * 4) ++ enc x ++ (flat E).drop (i * 4 + 4) := by
  have hl : (flat (E.take i)).length = i * 4 := by rw [flat_len, List.length_take]; omega
  have h1 : flat E = flat (E.take i) ++ (enc E[i]! ++ flat (E.drop (i + 1))) := by
    conv => lhs; rw [show E = E.take i ++ E[i]! :: E.drop (i + 1) by rw [getElem!_pos E i hi]; simp]
    rw [flat_app]
    rfl
  have hset : flat (E.set i x) = flat (E.take i) ++ (enc x ++ flat (E.drop (i + 1))) := by
    rw [List.set_eq_take_append_cons_drop, if_pos hi, flat_app]
    rfl
  rw [hset, h1, ← hl, List.take_left, ← List.append_assoc (flat (E.take i)) (enc E[i]!), ← enc_len E[i]!, ← List.length_append, List.drop_left, List.append_assoc]
theorem set4_app (P R : List Value) (x0 x1 x2 x3 a b c d : Value) : ((((P ++ x0 :: x1 :: x2 :: x3 :: R).set P.length a).set (P.length + 1) b).set (P.length + 2) c).set (P.length + 3) d = P ++ a :: b :: c :: d :: R := by
  induction P with
  | nil => rfl
  | cons p P ih =>
    show (((((p :: (P ++ x0 :: x1 :: x2 :: x3 :: R)).set (P.length + 1) a).set (P.length + 1 + 1) b).set (P.length + 2 + 1) c).set (P.length + 3 + 1) d) = p :: (P ++ a :: b :: c :: d :: R)
    rw [List.set_cons_succ, List.set_cons_succ, List.set_cons_succ, List.set_cons_succ, ih]
theorem flat_sets (E : List Rw) (i : Nat) (hi : i < E.length) (a b c d : Int) : ((((flat E).set (i * 4) (.int .i64 a)).set (i * 4 + 1) (.int .i64 b)).set (i * 4 + 2) (.int .i64 c)).set (i * 4 + 3) (.int .i64 d) = flat (E.set i ⟨a, b, c, d⟩) := by
  have hl : (flat (E.take i)).length = i * 4 := by rw [flat_len, List.length_take]; omega
  have h1 : flat E = flat (E.take i) ++ (enc E[i]! ++ flat (E.drop (i + 1))) := by
    conv => lhs; rw [show E = E.take i ++ E[i]! :: E.drop (i + 1) by rw [getElem!_pos E i hi]; simp]
    rw [flat_app]
    rfl
  have hset : flat (E.set i ⟨a, b, c, d⟩) = flat (E.take i) ++ (enc ⟨a, b, c, d⟩ ++ flat (E.drop (i + 1))) := by
    rw [List.set_eq_take_append_cons_drop, if_pos hi, flat_app]
    rfl
  rw [hset, h1, ← hl]
  exact set4_app _ _ _ _ _ _ _ _ _ _
theorem row_put {w : World} {b i t : Nat} {L : List Rw} (h : w.heap[b]? = some (.cells (flat L).toArray t (0, 0))) (hi : i < L.length) (x y z u : Int) : ((((w.setCell ⟨b, i * 4, none⟩ (.int .i64 x)).setCell ⟨b, i * 4 + 1, none⟩ (.int .i64 y)).setCell ⟨b, i * 4 + 2, none⟩ (.int .i64 z)).setCell ⟨b, i * 4 + 3, none⟩ (.int .i64 u)).heap[b]? = some (.cells (flat (L.set i ⟨x, y, z, u⟩)).toArray t (0, 0)) := by
  rw [← flat_sets L i hi]
  simp [World.setCell, Array.getElem?_modify, h]
theorem row_frozen {w : World} {b t : Nat} {cs : Array Value} (h : w.heap[b]? = some (.cells cs t (0, 0))) (j : Nat) : w.frozen? ⟨b, j, none⟩ = false := by simp [World.frozen?, h]
theorem far4 {w : World} {b i j k m n : Nat} (v0 v1 v2 v3 : Value) (h : k ≠ b) : ((((w.setCell ⟨b, i, none⟩ v0).setCell ⟨b, j, none⟩ v1).setCell ⟨b, m, none⟩ v2).setCell ⟨b, n, none⟩ v3).heap[k]? = w.heap[k]? := by
  rw [Below.heap_setCell _ _ _ _ (by exact h), Below.heap_setCell _ _ _ _ (by exact h), Below.heap_setCell _ _ _ _ (by exact h), Below.heap_setCell _ _ _ _ (by exact h)]
/-- A ring of sixteen samples: its block g, its row b, its channel c; the row's samples L, the first one's place fr, how many there are n. -/
structure RingP (w : World) (g b c : Nat) (L : List Rw) (fr n : Nat) : Prop where
  head : w.heap[g]? = some (.cells #[.slice (some ⟨b, 0, none⟩) 16 16, .int .i64 (fr : Int), .chan (some c)] 103 (0, 0))
  row : w.heap[b]? = some (.cells (flat L).toArray 60 (0, 0))
  chan : ∃ buf s r, w.heap[c]? = some (.chan 16 buf false s r false) ∧ buf.size = n
  len : L.length = 16
  lt : fr < 16
  le : n ≤ 16
theorem RingP.drewN {w : World} {g b c fr n : Nat} {L : List Rw} (h : RingP w g b c L fr n) (m : Nat) : RingP (w.drewN m) g b c L fr n := ⟨h.head, h.row, h.chan, h.len, h.lt, h.le⟩
theorem RingP.below {w w1 : World} {g b c fr n : Nat} {L : List Rw} (h : RingP w g b c L fr n) (hb : Below w.heap.size w w1) : RingP w1 g b c L fr n := by
  have h2 : ∀ (k : Nat) (o : Obj), w.heap[k]? = some o → w1.heap[k]? = some o := fun k o ho => (hb.block k (Array.getElem?_eq_some_iff.1 ho).1).trans ho
  obtain ⟨buf, s, r, hc, hn⟩ := h.chan
  exact ⟨h2 _ _ h.head, h2 _ _ h.row, ⟨buf, s, r, h2 _ _ hc, hn⟩, h.len, h.lt, h.le⟩
theorem RingP.same {w w1 : World} {g b c fr n : Nat} {L : List Rw} (h : RingP w g b c L fr n) (hg : w1.heap[g]? = w.heap[g]?) (hb : w1.heap[b]? = w.heap[b]?) (hc : w1.heap[c]? = w.heap[c]?) : RingP w1 g b c L fr n :=
  ⟨hg.trans h.head, hb.trans h.row, by rw [hc]; exact h.chan, h.len, h.lt, h.le⟩
theorem RingP.old {w : World} {g b c fr n : Nat} {L : List Rw} (h : RingP w g b c L fr n) : g < w.heap.size ∧ b < w.heap.size ∧ c < w.heap.size := by
  obtain ⟨buf, s, r, hc, hn⟩ := h.chan
  exact ⟨(Array.getElem?_eq_some_iff.1 h.head).1, (Array.getElem?_eq_some_iff.1 h.row).1, (Array.getElem?_eq_some_iff.1 hc).1⟩
theorem RingP.cells {w : World} {g b c fr n : Nat} {L : List Rw} (h : RingP w g b c L fr n) : w.cell? ⟨g, 0, none⟩ = some (.slice (some ⟨b, 0, none⟩) 16 16) ∧ w.cell? ⟨g, 1, none⟩ = some (.int .i64 (fr : Int)) ∧ w.cell? ⟨g, 2, none⟩ = some (.chan (some c)) := by
  refine ⟨?_, ?_, ?_⟩
  · exact (blk_cell h.head 0).trans (by rfl)
  · exact (blk_cell h.head 1).trans (by rfl)
  · exact (blk_cell h.head 2).trans (by rfl)
set_option maxHeartbeats 4000000 in
theorem place_ (w : World) (g b c fr n : Nat) (L : List Rw) (h : RingP w g b c L fr n) (i : Nat) (hi : i ≤ 16) : Calls Try.prog 56 #[.pointer (some ⟨g, 0, none⟩), .int .i64 (i : Int)] w fun e w' => e = .returned (.int .i64 (((fr + i) % 16 : Nat) : Int)) ∧ Drawn0 w w' := by
  obtain ⟨z0, z1, z2⟩ := h.cells
  have hlt := h.lt
  have hw : IntKind.i64.wrap ((fr : Int) + (i : Int)) = (fr : Int) + (i : Int) := by rw [IntKind.wrap_i64]; omega
  have hw2 : wrap64 ((fr : Int) + (i : Int)) = (fr : Int) + (i : Int) := by unfold wrap64; omega
  have hm : Int.tmod ((fr : Int) + (i : Int)) 16 = (((fr + i) % 16 : Nat) : Int) := by rw [Int.tmod_eq_emod_of_nonneg (by omega)]; omega
  have hm2 : IntKind.i64.wrap (Int.tmod ((fr : Int) + (i : Int)) 16) = (((fr + i) % 16 : Nat) : Int) := by rw [hm, IntKind.wrap_i64]; omega
  clear h
  go_enter Try.func56, Try.ntmps56
  go_upto_region 1 with (fail)
  go_quiet (fail)
  go_wp2
  go_ret
  refine ⟨?_, nq, rfl⟩
  rw [Int.natCast_emod, Int.natCast_add]
  rfl
set_option maxHeartbeats 4000000 in
set_option maxRecDepth 100000 in
theorem len_ (w : World) (g b c fr n : Nat) (L : List Rw) (h : RingP w g b c L fr n) : Calls Try.prog 35 #[.pointer (some ⟨g, 0, none⟩)] w fun e w' => e = .returned (.int .i64 (n : Int)) ∧ Drawn0 w w' := by
  obtain ⟨z0, z1, z2⟩ := h.cells
  obtain ⟨buf, s, r, hc, hn⟩ := h.chan
  have HU := Aside0.mk (show Try.prog.underlying 101 = some (.chan .both 110) by kernel_rfl)
  clear h
  go_enter Try.func35, Try.ntmps35
  go_upto_region 1 with (fail)
  refine Ch.wp_region_from ?_
  refine Ch.FromL.value (v := .pointer (some ⟨g, 0, none⟩)) (w' := w) rfl rfl ?_
  refine Ch.FromL.value (v := .pointer (some ⟨g, 0, none⟩)) (w' := w) rfl rfl ?_
  refine Ch.FromL.value (v := .pointer (some ⟨g, 2, none⟩)) (w' := w) rfl rfl ?_
  refine Ch.FromL.value (v := .chan (some c)) (w' := w) rfl ?ld ?_
  case ld =>
    simp only [Act.put, List.setIfInBounds_toArray, List.set_cons_zero, List.set_cons_succ]
    go_simp
  refine Ch.FromL.value (v := .int .i64 (n : Int)) (w' := w) rfl ?ln ?_
  case ln =>
    simp only [Act.put, List.setIfInBounds_toArray, List.set_cons_zero, List.set_cons_succ]
    have hl := Go.Conc.run_len_chan (P := Try.prog) 101 3 HU.out hc
    rw [hn] at hl
    go_simp
  refine Ch.FromL.ops ?_
  go_wp2
  go_ret
  exact ⟨rfl, 0, rfl⟩
theorem frozen4 {w : World} {g : Nat} {cs : Array Value} {t : Nat} (h : w.heap[g]? = some (.cells cs t (0, 0))) : w.frozen? ⟨g, 0, none⟩ = false ∧ w.frozen? ⟨g, 1, none⟩ = false ∧ w.frozen? ⟨g, 2, none⟩ = false ∧ w.frozen? ⟨g, 3, none⟩ = false := by simp [World.frozen?, h]
theorem box4 {w : World} {g : Nat} {t : Nat} {x0 x1 x2 x3 : Value} (h : w.heap[g]? = some (.cells #[x0, x1, x2, x3] t (0, 0))) : w.cell? ⟨g, 0, none⟩ = some x0 ∧ w.cell? ⟨g, 1, none⟩ = some x1 ∧ w.cell? ⟨g, 2, none⟩ = some x2 ∧ w.cell? ⟨g, 3, none⟩ = some x3 := ⟨(blk_cell h 0).trans (by rfl), (blk_cell h 1).trans (by rfl), (blk_cell h 2).trans (by rfl), (blk_cell h 3).trans (by rfl)⟩
theorem put4 {w : World} {g : Nat} {t : Nat} {x0 x1 x2 x3 : Value} (y0 y1 y2 y3 : Value) (h : w.heap[g]? = some (.cells #[x0, x1, x2, x3] t (0, 0))) : ((((w.setCell ⟨g, 0, none⟩ y0).setCell ⟨g, 1, none⟩ y1).setCell ⟨g, 2, none⟩ y2).setCell ⟨g, 3, none⟩ y3).heap[g]? = some (.cells #[y0, y1, y2, y3] t (0, 0)) := by
  simp [World.setCell, Array.getElem?_modify, h]
theorem below4 {B : Nat} {w W : World} {g : Nat} (y0 y1 y2 y3 : Value) (h : Below B w W) (hg : B ≤ g) : Below B w ((((W.setCell ⟨g, 0, none⟩ y0).setCell ⟨g, 1, none⟩ y1).setCell ⟨g, 2, none⟩ y2).setCell ⟨g, 3, none⟩ y3) := (((h.setCell hg _).setCell hg _).setCell hg _).setCell hg _
/-- Only the ring's three blocks have changed. -/
structure RFr (w w' : World) (g b c : Nat) : Prop where
  os : w'.os = w.os
  tape : w'.tape = w.tape
  output : w'.output = w.output
  size : w.heap.size ≤ w'.heap.size
  block : ∀ k, k < w.heap.size → k ≠ g → k ≠ b → k ≠ c → w'.heap[k]? = w.heap[k]?
theorem RingP.apart {w : World} {g b c fr n : Nat} {L : List Rw} (h : RingP w g b c L fr n) : g ≠ b ∧ g ≠ c ∧ b ≠ c := by
  obtain ⟨buf, s, r, hc, hn⟩ := h.chan
  refine ⟨?_, ?_, ?_⟩ <;> rintro rfl
  · have := h.head.symm.trans h.row
    simp at this
  · have := h.head.symm.trans hc
    simp at this
  · have := h.row.symm.trans hc
    simp at this
theorem unit_zero (w : World) : (zeroValue 110).run Try.prog w = .ok (.agg #[]) w := by kernel_rfl
set_option maxHeartbeats 4000000 in
set_option maxRecDepth 100000 in
theorem pop0_ (w : World) (g b c fr : Nat) (L : List Rw) (h : RingP w g b c L fr 0) : Calls Try.prog 54 #[.pointer (some ⟨g, 0, none⟩)] w fun e w' => e = .returned (.tuple #[encV ⟨0, 0, 0, 0⟩, .bool false]) ∧ Below w.heap.size w w' := by
  go_enter Try.func54, Try.ntmps54
  go_upto_region 1 with (fail)
  obtain ⟨w1, hw1⟩ : ∃ w1, w1 = w.alloc (.cells #[.int .i64 0, .int .i64 0, .int .i64 0, .int .i64 0] 60) := ⟨_, rfl⟩
  rw [← hw1]
  have hb1 : Below w.heap.size w w1 := hw1 ▸ below_alloc (Below.refl _ _) _
  have hx : w1.heap[w.heap.size]? = some (.cells #[.int .i64 0, .int .i64 0, .int .i64 0, .int .i64 0] 60 (0, 0)) := hw1 ▸ blk_new w _
  have h1 := h.below hb1
  clear h
  obtain ⟨z0, z1, z2⟩ := h1.cells
  obtain ⟨buf, s, r, hc, hn⟩ := h1.chan
  have HC := Aside0.mk hc
  have HN := Aside0.mk hn
  have HB := Aside0.mk hb1
  have HX := Aside0.mk hx
  obtain ⟨x0, hx0⟩ : ∃ x0, x0 = w.heap.size := ⟨_, rfl⟩
  rw [← hx0]
  rw [← hx0] at HX HB
  have HX0 := Aside0.mk hx0
  clear h1 hc hn hb1 hx hw1 hx0
  go_upto_region 2 with (fail)
  refine Ch.wp_region_from ?_
  refine Ch.FromL.comm (w1 := w1) rfl ?rn (Ch.Comm.empty c 16 buf s r false (.agg #[]) HC.out HN.out) ?_
  case rn =>
    simp only [execOp]
    simp [unit_zero]
    rfl
  refine Ch.FromL.ops ?_
  simp only [Act.put, List.setIfInBounds_toArray, List.set_cons_zero, List.set_cons_succ]
  obtain ⟨y0, y1, y2, y3⟩ := box4 HX.out
  obtain ⟨f0, f1, f2, f3⟩ := frozen4 HX.out
  go_wp2
  obtain ⟨w2, hw2⟩ : ∃ w2, w2 = ((((w1.setCell ⟨x0, 0, none⟩ (.int .i64 0)).setCell ⟨x0, 1, none⟩ (.int .i64 0)).setCell ⟨x0, 2, none⟩ (.int .i64 0)).setCell ⟨x0, 3, none⟩ (.int .i64 0)) := ⟨_, rfl⟩
  rw [← hw2]
  have hx2 := put4 (.int .i64 0) (.int .i64 0) (.int .i64 0) (.int .i64 0) HX.out
  have hb2 := below4 (.int .i64 0) (.int .i64 0) (.int .i64 0) (.int .i64 0) HB.out (Nat.le_refl _)
  rw [← hw2] at hx2 hb2
  obtain ⟨v0, v1, v2, v3⟩ := box4 hx2
  refine bodyPost_ret (v := .tuple #[encV ⟨0, 0, 0, 0⟩, .bool false]) ?_ rfl ?_
  · refine results_ct (fn := Try.f54) (p := 2) (u := 3) (ty := 60) rfl _ _ x0 60 #[.int .i64 0, .int .i64 0, .int .i64 0, .int .i64 0] (0, 0) _ rfl hx2 Try.underlying60 rfl (by kernel_rfl)
  · exact ⟨rfl, HX0.out ▸ hb2⟩
end Go.Proofs.Ytpolofolibabiaa.Bs
