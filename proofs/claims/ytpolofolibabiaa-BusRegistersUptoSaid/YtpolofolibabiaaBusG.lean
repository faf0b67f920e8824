/-
  Package ring at api.Raw: Push where there is room.
  No conditions.
-/
import Derived.Test.YtpolofolibabiaaBusF
namespace Go.Proofs.Ytpolofolibabiaa.Bs
open Go Go.RowKit Go.Lib Go.Proofs.YtpolofolibabiaaW.PrintWords Go.Proofs.YtpolofolibabiaaW.PrintLast Go.Proofs.YtpolofolibabiaaW.PrintMore
set_option linter.unusedVariables false
set_option linter.unusedSimpArgs false
theorem RingP.drew {w : World} {g b c fr n : Nat} {L : List Rw} (h : RingP w g b c L fr n) : RingP w.drew g b c L fr n := h.drewN 1
theorem two (w : World) (x y : Obj) : ((w.alloc x).alloc y).heap[w.heap.size]? = some x ∧ ((w.alloc x).alloc y).heap[w.heap.size + 1]? = some y := by
  show ((w.heap.push x).push y)[_]? = _ ∧ ((w.heap.push x).push y)[_]? = _
  refine ⟨?_, ?_⟩
  · rw [Array.getElem?_push, if_neg (by simp), Array.getElem?_push, if_pos rfl]
  · rw [Array.getElem?_push, if_pos (by simp)]
set_option maxHeartbeats 4000000 in
set_option maxRecDepth 100000 in
theorem push_ (w : World) (g b c fr n : Nat) (L : List Rw) (h : RingP w g b c L fr n) (hn16 : n < 16) (x : Rw) : Calls Try.prog 50 #[.pointer (some ⟨g, 0, none⟩), encV x] w fun e w' => ∃ v, e = .returned v ∧ RingP w' g b c (L.set ((fr + n) % 16) x) fr (n + 1) ∧ Fr (RS g b c) w w' := by
  obtain ⟨p0, p1, p2, p3⟩ := x
  have hlen : ∀ W, RingP W g b c L fr n → Calls Try.prog 35 #[.pointer (some ⟨g, 0, none⟩)] W fun e w' => e = .returned (.int .i64 (n : Int)) ∧ Drawn0 W w' := fun W h => len_ W g b c fr n L h
  have HL := Aside0.mk hlen
  have H := Aside0.mk h
  clear h hlen
  unfold encV
  go_enter Try.func50, Try.ntmps50
  go_upto_region 1 with fail
  obtain ⟨w1, hw1⟩ : ∃ w1, w1 = ((w.alloc (.cells #[.int .i64 p0, .int .i64 p1, .int .i64 p2, .int .i64 p3] 60)).alloc (.cells #[.int .i64 0, .int .i64 0, .int .i64 0, .int .i64 0] 60)) := ⟨_, rfl⟩
  rw [← hw1]
  have hb1 : Below w.heap.size w w1 := hw1 ▸ below_alloc (below_alloc (Below.refl _ _) _) _
  have hx : w1.heap[w.heap.size]? = some (.cells #[.int .i64 p0, .int .i64 p1, .int .i64 p2, .int .i64 p3] 60 (0, 0)) := by rw [hw1]; exact (two w _ _).1
  have hy : w1.heap[w.heap.size + 1]? = some (.cells #[.int .i64 0, .int .i64 0, .int .i64 0, .int .i64 0] 60 (0, 0)) := by rw [hw1]; exact (two w _ _).2
  have h1 := H.out.below hb1
  have ho := H.out.old
  obtain ⟨x1, hx1⟩ : ∃ x1, x1 = w.heap.size + 1 := ⟨_, rfl⟩
  obtain ⟨x0, hx0⟩ : ∃ x0, x0 = w.heap.size := ⟨_, rfl⟩
  rw [← hx1] at hy ⊢
  rw [← hx0] at hx ⊢
  have HX := Aside0.mk hx
  have HY := Aside0.mk hy
  have HB := Aside0.mk hb1
  have H1 := Aside0.mk h1
  have HO := Aside0.mk ho
  have HE0 := Aside0.mk hx0
  have HE1 := Aside0.mk hx1
  clear hx hy hb1 h1 ho hx0 hx1 hw1 H
  go_upto_region 2 with (go_at_call 35; with_reducible refine (HL.out _ H1.out).mono ?_; rintro e w' ⟨rfl, np, rfl⟩)
  obtain ⟨z0, z1, z2⟩ := (H1.out.drewN np).cells
  obtain ⟨buf, s, r, hc, hn⟩ := H1.out.chan
  go_upto_region 4 with (fail)
  refine Ch.wp_region_from ?_
  refine Ch.FromL.comm (w1 := w1.drewN np) rfl ?rn (Ch.Comm.put c 16 buf s r false (.agg #[]) (.agg #[]) (by exact hc) (by rw [hn]; exact hn16)) ?_
  case rn =>
    simp only [execOp]
    simp [unit_zero]
    exact ⟨rfl, rfl⟩
  refine Ch.FromL.ops ?_
  simp only [Act.put, List.setIfInBounds_toArray, List.set_cons_zero, List.set_cons_succ]
  obtain ⟨w2, hw2⟩ : ∃ w2, w2 = ({ w1.drewN np with heap := (w1.drewN np).heap.setIfInBounds c (.chan 16 (buf.push (.agg #[])) false (s + 1) r false) } : World) := ⟨_, rfl⟩
  rw [← hw2]
  have hk2 : ∀ k, k ≠ c → w2.heap[k]? = w1.heap[k]? := fun k hk => hw2 ▸ Ch.chan_other (W := w1.drewN np) hk
  have hap := H1.out.apart
  have ho := HO.out
  have he0 := HE0.out
  have he1 := HE1.out
  have h2 : RingP w2 g b c L fr (n + 1) := ⟨(hk2 g hap.2.1).trans H1.out.head, (hk2 b hap.2.2).trans H1.out.row, ⟨_, _, _, hw2 ▸ Ch.chan_same (W := w1.drewN np) hc, by rw [Array.size_push, hn]⟩, H1.out.len, H1.out.lt, by omega⟩
  have hx2 := (hk2 x0 (by omega)).trans HX.out
  have hy2 := (hk2 x1 (by omega)).trans HY.out
  have hf2 : Fr (RS g b c) w w2 := ((Fr.of_below HB.out).drewN np).trans (w1 := w1.drewN np) ⟨by rw [hw2], by rw [hw2], by rw [hw2], by rw [hw2]; simp, fun k _ hk => hk2 k (fun e => hk (.inr (.inr e)))⟩
  have HF2 := Aside0.mk hf2
  have H2 := Aside0.mk h2
  have HX2 := Aside0.mk hx2
  have HY2 := Aside0.mk hy2
  clear h2 hx2 hy2 hf2 hk2 hap ho he0 he1 hw2 hc hn z0 z1 z2
  go_upto_region 8 with (fail)
  obtain ⟨z0, z1, z2⟩ := H2.out.cells
  obtain ⟨q0, q1, q2, q3⟩ := box4 HX2.out
  obtain ⟨pl, hpl⟩ : ∃ pl, pl = (fr + n) % 16 := ⟨_, rfl⟩
  have hlt : pl < L.length := by rw [H2.out.len]; omega
  have HPL := Aside0.mk (show ∀ W, RingP W g b c L fr (n + 1) → Calls Try.prog 56 #[.pointer (some ⟨g, 0, none⟩), .int .i64 (n : Int)] W fun e w' => e = .returned (.int .i64 (pl : Int)) ∧ Drawn0 W w' from fun W h => by rw [hpl]; exact place_ W g b c fr (n + 1) _ h n (by omega))
  have f0 := row_frozen H2.out.row (pl * 4)
  have f1 := row_frozen H2.out.row (pl * 4 + 1)
  have f2 := row_frozen H2.out.row (pl * 4 + 2)
  have f3 := row_frozen H2.out.row (pl * 4 + 3)
  obtain ⟨L0, hL0⟩ : ∃ l0, L[pl]! = l0 := ⟨_, rfl⟩
  obtain ⟨j0, j1, j2, j3⟩ := L0
  have hr : ∀ k u, (enc L[pl]!)[k]? = some u → w2.cell? ⟨b, pl * 4 + k, none⟩ = some u := fun k u hu => (blk_cell H2.out.row (pl * 4 + k)).trans (by rw [List.getElem?_toArray]; exact flat_get L pl hlt k u hu)
  rw [hL0] at hr
  have r0 : w2.cell? ⟨b, pl * 4, none⟩ = some (.int .i64 j0) := hr 0 _ rfl
  have r1 : w2.cell? ⟨b, pl * 4 + 1, none⟩ = some (.int .i64 j1) := hr 1 _ rfl
  have r2 : w2.cell? ⟨b, pl * 4 + 2, none⟩ = some (.int .i64 j2) := hr 2 _ rfl
  have r3 : w2.cell? ⟨b, pl * 4 + 3, none⟩ = some (.int .i64 j3) := hr 3 _ rfl
  have hp16 : (pl : Int) < 16 := by omega
  have HP := Aside0.mk hpl
  have HLT := Aside0.mk hlt
  clear hr hL0 hpl hlt
  refine start_ (n := 10) (S := fun w' => w'.cell? ⟨g, 0, none⟩ = some (.slice (some ⟨b, 0, none⟩) 16 16) ∧ w'.cell? ⟨x0, 0, none⟩ = some (.int .i64 p0) ∧ w'.cell? ⟨x0, 1, none⟩ = some (.int .i64 p1) ∧ w'.cell? ⟨x0, 2, none⟩ = some (.int .i64 p2) ∧ w'.cell? ⟨x0, 3, none⟩ = some (.int .i64 p3)) (ds := [9]) #[false, false, false, false, false, false, false, false, false, false] (by kernel_rfl) rfl rfl ⟨z0, q0, q1, q2, q3⟩ (fun hHeld => ?_)
  refine pure_ (i := 0) (N := some 42) (v := ?_) (a' := ?_) #[true, false, false, false, false, false, false, false, false, false] rfl rfl (by kernel_rfl) (fun _ _ _ h => h) (Or.inl ⟨by rfl, ?_⟩) ?_ ?_
  rotate_left
  · intro w'
    go_simp
    with_reducible rfl
  rotate_left
  · simp only [Act.put, List.setIfInBounds_toArray, List.set_cons_zero, List.set_cons_succ, i64_w, i32_w]
    rfl
  refine pure_ (i := 1) (N := some 43) (v := ?_) (a' := ?_) #[true, true, false, false, false, false, false, false, false, false] rfl rfl (by kernel_rfl) (fun _ _ _ h => h) (Or.inl ⟨by rfl, ?_⟩) ?_ ?_
  rotate_left
  · intro w'
    go_simp
    with_reducible rfl
  rotate_left
  · simp only [Act.put, List.setIfInBounds_toArray, List.set_cons_zero, List.set_cons_succ, i64_w, i32_w]
    rfl
  refine pure_ (i := 2) (N := some 44) (v := ?_) (a' := ?_) #[true, true, true, false, false, false, false, false, false, false] rfl rfl (by kernel_rfl) (fun _ _ _ h => h) (Or.inl ⟨by rfl, ?_⟩) ?_ ?_
  rotate_left
  · intro w'
    go_simp
    with_reducible rfl
  rotate_left
  · simp only [Act.put, List.setIfInBounds_toArray, List.set_cons_zero, List.set_cons_succ, i64_w, i32_w]
    rfl
  refine pure_ (i := 4) (N := some 46) (v := ?_) (a' := ?_) #[true, true, true, false, true, false, false, false, false, false] rfl rfl (by kernel_rfl) (fun _ _ _ h => h) (Or.inl ⟨by rfl, ?_⟩) ?_ ?_
  rotate_left
  · intro w'
    go_simp
    with_reducible rfl
  rotate_left
  · simp only [Act.put, List.setIfInBounds_toArray, List.set_cons_zero, List.set_cons_succ, i64_w, i32_w]
    rfl
  refine pure_ (i := 5) (N := some 47) (v := ?_) (a' := ?_) #[true, true, true, false, true, true, false, false, false, false] rfl rfl (by kernel_rfl) (fun _ _ _ h => h) (Or.inl ⟨by rfl, ?_⟩) ?_ ?_
  rotate_left
  · intro w'
    go_simp
    with_reducible rfl
  rotate_left
  · simp only [Act.put, List.setIfInBounds_toArray, List.set_cons_zero, List.set_cons_succ, i64_w, i32_w]
    rfl
  refine take_ (i := 3) (N := some 45) (v := ?_) (a' := ?_) #[true, true, true, true, true, true, false, false, false, false] rfl rfl (by kernel_rfl) (fun _ _ _ h => h) (Or.inl ⟨by rfl, ?_⟩) hHeld ?_ ?_
  rotate_left
  · rintro w' ⟨s0, s1, s2, s3, s4⟩
    go_simp
    with_reducible rfl
  rotate_left
  · simp only [Act.put, List.setIfInBounds_toArray, List.set_cons_zero, List.set_cons_succ, i64_w, i32_w]
    rfl
  refine take_ (i := 7) (N := some 49) (v := ?_) (a' := ?_) #[true, true, true, true, true, true, false, true, false, false] rfl rfl (by kernel_rfl) (fun _ _ _ h => h) (Or.inl ⟨by rfl, ?_⟩) hHeld ?_ ?_
  rotate_left
  · rintro w' ⟨s0, s1, s2, s3, s4⟩
    go_simp
    with_reducible rfl
  rotate_left
  · simp only [Act.put, List.setIfInBounds_toArray, List.set_cons_zero, List.set_cons_succ, i64_w, i32_w]
    rfl
  refine one_ (i := 6) (N := some 48) #[true, true, true, true, true, true, true, true, false, false] rfl rfl (by kernel_rfl) (by decide) (fun K hK => ?_)
  refine goes_ Try.func56 (by kernel_rfl) rfl #[.pointer (some ⟨g, 0, none⟩), .int .i64 (n : Int)] (by rfl) rfl rfl (by simp only [List.map_toArray, List.map_cons, List.map_nil]; rfl) ?_
  with_reducible refine (HPL.out w2.drew (RingP.drew H2.out)).mono ?_
  rintro e w3 ⟨rfl, nq, rfl⟩
  refine ⟨_, rfl, ?_⟩
  refine hK.out _ _ ⟨hHeld.1, hHeld.2.1, hHeld.2.2.1, hHeld.2.2.2.1, hHeld.2.2.2.2⟩ (fun hHeld => ?_)
  clear hK K
  refine norm_ (a' := ?_) ?_ ?_
  rotate_left
  · show Act.put _ (some 48) _ = _
    simp only [Act.put, List.setIfInBounds_toArray, List.set_cons_zero, List.set_cons_succ, i64_w, i32_w]
    rfl
  refine pure_ (i := 8) (N := some 50) (v := ?_) (a' := ?_) #[true, true, true, true, true, true, true, true, true, false] rfl rfl (by kernel_rfl) (fun _ _ _ h => h) (Or.inl ⟨by rfl, ?_⟩) ?_ ?_
  rotate_left
  · intro w'
    go_simp
    with_reducible rfl
  rotate_left
  · simp only [Act.put, List.setIfInBounds_toArray, List.set_cons_zero, List.set_cons_succ, i64_w, i32_w]
    rfl
  refine last_ (i := 9) (N := none) #[true, true, true, true, true, true, true, true, true, true] rfl rfl (by kernel_rfl) (by decide) (fun K hK => ?_)
  refine skip_ (w1 := ?_) (by rfl) rfl ?_ ?_
  rotate_left
  · go_simp
    rfl
  refine hK.out _ _ ?_
  clear hK K
  refine done_ (by kernel_rfl) ?_

  obtain ⟨w5, hw5⟩ : ∃ w5, w5 = (((((w2.drewN (1 + nq)).setCell ⟨b, pl * 4, none⟩ (.int .i64 p0)).setCell ⟨b, pl * 4 + 1, none⟩ (.int .i64 p1)).setCell ⟨b, pl * 4 + 2, none⟩ (.int .i64 p2)).setCell ⟨b, pl * 4 + 3, none⟩ (.int .i64 p3)) := ⟨_, rfl⟩
  rw [← hw5]
  have hap := H2.out.apart
  have ho := HO.out
  have he0 := HE0.out
  have he1 := HE1.out
  have hk5 : ∀ k, k ≠ b → w5.heap[k]? = w2.heap[k]? := fun k hk => by rw [hw5]; exact far4 (w := w2.drewN (1 + nq)) _ _ _ _ hk
  have hb5 : w5.heap[b]? = some (.cells (flat (L.set pl ⟨p0, p1, p2, p3⟩)).toArray 60 (0, 0)) := by rw [hw5]; exact row_put (w := w2.drewN (1 + nq)) H2.out.row HLT.out p0 p1 p2 p3
  have h5 : RingP w5 g b c (L.set pl ⟨p0, p1, p2, p3⟩) fr (n + 1) := ⟨(hk5 g hap.1).trans H2.out.head, hb5, by rw [hk5 c (Ne.symm hap.2.2)]; exact H2.out.chan, by rw [List.length_set]; exact H2.out.len, H2.out.lt, H2.out.le⟩
  have hy5 := (hk5 x1 (by omega)).trans HY2.out
  have hf5 : Fr (RS g b c) w w5 := HF2.out.trans (w1 := w2) ⟨by rw [hw5]; rfl, by rw [hw5]; rfl, by rw [hw5]; rfl, by rw [hw5]; simp [World.setCell, World.drewN], fun k _ hk => hk5 k (fun e => hk (.inr (.inl e)))⟩
  have H5 := Aside0.mk h5
  have HY5 := Aside0.mk hy5
  have HF5 := Aside0.mk hf5
  clear z0 z1 z2 q0 q1 q2 q3 r0 r1 r2 r3 f0 f1 f2 f3 hHeld hap ho he0 he1 hk5 hb5 h5 hy5 hf5 hw5
  obtain ⟨y0, y1, y2, y3⟩ := box4 HY5.out
  obtain ⟨f0, f1, f2, f3⟩ := frozen4 HY5.out
  go_wp2
  refine bodyPost_ret (v := .tuple #[encV Rw.no, .bool false]) ?_ rfl ?_
  · exact results_ct (fn := Try.f50) (p := 4) (u := 5) (ty := 60) rfl _ _ x1 60 #[.int .i64 0, .int .i64 0, .int .i64 0, .int .i64 0] (0, 0) _ rfl (put4 _ _ _ _ HY5.out) Try.underlying60 rfl (by kernel_rfl)
  · have hx : ∀ k, k ≠ x1 → ((((w5.setCell ⟨x1, 0, none⟩ (.int .i64 0)).setCell ⟨x1, 1, none⟩ (.int .i64 0)).setCell ⟨x1, 2, none⟩ (.int .i64 0)).setCell ⟨x1, 3, none⟩ (.int .i64 0)).heap[k]? = w5.heap[k]? := fun k hk => far4 _ _ _ _ hk
    have ho := HO.out
    have he1 := HE1.out
    refine ⟨_, rfl, ?_, ?_⟩
    · rw [← HP.out]
      exact H5.out.same (hx g (by omega)) (hx b (by omega)) (hx c (by omega))
    · exact ((((HF5.out.putN ⟨x1, 0, none⟩ _ (by show w.heap.size ≤ x1; omega)).putN ⟨x1, 1, none⟩ _ (by show w.heap.size ≤ x1; omega)).putN ⟨x1, 2, none⟩ _ (by show w.heap.size ≤ x1; omega)).putN ⟨x1, 3, none⟩ _ (by show w.heap.size ≤ x1; omega))
theorem pushQ (w : World) (g b c : Nat) (q : List Rw) (h : RingQ w g b c q) (hl : q.length < 16) (x : Rw) : Calls Try.prog 50 #[.pointer (some ⟨g, 0, none⟩), encV x] w fun e w' => ∃ v, e = .returned v ∧ RingQ w' g b c (q ++ [x]) ∧ Fr (RS g b c) w w' := by
  obtain ⟨L, fr, h, k⟩ := h
  refine (push_ w g b c fr q.length L h hl x).mono fun e w' ⟨v, he, hr, hf⟩ => ⟨v, he, ⟨_, fr, by rw [List.length_append]; exact hr, ?_⟩, hf⟩
  intro i hi
  have hlt : ∀ j, (fr + j) % 16 < L.length := fun j => by rw [h.len]; omega
  rw [List.length_append, List.length_singleton] at hi
  by_cases hiq : i < q.length
  · have h1 := k i hiq
    have hne : (fr + q.length) % 16 ≠ (fr + i) % 16 := by omega
    rw [getElem!_pos _ _ (by rw [List.length_set]; exact hlt i), List.getElem_set_ne hne, ← getElem!_pos L _ (hlt i), h1, getElem!_pos q i hiq, getElem!_pos (q ++ [x]) i (by rw [List.length_append, List.length_singleton]; omega), List.getElem_append_left hiq]
  · have hi' : i = q.length := by omega
    subst hi'
    rw [getElem!_pos _ _ (by rw [List.length_set]; exact hlt q.length), List.getElem_set_self, getElem!_pos (q ++ [x]) q.length (by rw [List.length_append, List.length_singleton]; omega), List.getElem_append_right (Nat.le_refl _)]
    simp
end Go.Proofs.Ytpolofolibabiaa.Bs
