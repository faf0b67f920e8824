/-
  Package ring at api.Raw: Pop of a ring with samples.
  No conditions.
-/
import Derived.Test.YtpolofolibabiaaBusA
namespace Go.Proofs.Ytpolofolibabiaa.Bs
open Go Go.RowKit Go.Lib Go.Proofs.YtpolofolibabiaaW.PrintWords Go.Proofs.YtpolofolibabiaaW.PrintLast Go.Proofs.YtpolofolibabiaaW.PrintMore
set_option linter.unusedVariables false
set_option linter.unusedSimpArgs false
set_option maxHeartbeats 4000000 in
set_option maxRecDepth 100000 in
theorem popS_ (w : World) (g b c fr n : Nat) (L : List Rw) (h : RingP w g b c L fr (n + 1)) : Calls Try.prog 54 #[.pointer (some ⟨g, 0, none⟩)] w fun e w' => e = .returned (.tuple #[encV L[fr]!, .bool true]) ∧ RingP w' g b c (L.set fr ⟨0, 0, 0, 0⟩) ((fr + 1) % 16) n ∧ RFr w w' g b c := by
  go_enter Try.func54, Try.ntmps54
  go_upto_region 1 with (fail)
  obtain ⟨w1, hw1⟩ : ∃ w1, w1 = w.alloc (.cells #[.int .i64 0, .int .i64 0, .int .i64 0, .int .i64 0] 60) := ⟨_, rfl⟩
  rw [← hw1]
  have hb1 : Below w.heap.size w w1 := hw1 ▸ below_alloc (Below.refl _ _) _
  have hx : w1.heap[w.heap.size]? = some (.cells #[.int .i64 0, .int .i64 0, .int .i64 0, .int .i64 0] 60 (0, 0)) := hw1 ▸ blk_new w _
  have h1 := h.below hb1
  have ho := h.old
  clear h
  obtain ⟨z0, z1, z2⟩ := h1.cells
  obtain ⟨buf, s, r, hc, hn⟩ := h1.chan
  have H1 := Aside0.mk h1
  have HC := Aside0.mk hc
  have HN := Aside0.mk hn
  have HB := Aside0.mk hb1
  have HX := Aside0.mk hx
  obtain ⟨x0, hx0⟩ : ∃ x0, x0 = w.heap.size := ⟨_, rfl⟩
  rw [← hx0]
  rw [← hx0] at HX HB ho
  have HO := Aside0.mk ho
  clear ho
  have HX0 := Aside0.mk hx0
  clear h1 hc hn hb1 hx hw1 hx0
  go_upto_region 2 with (fail)
  refine Ch.wp_region_from ?_
  refine Ch.FromL.comm (w1 := w1) rfl ?rn (Ch.Comm.take c 16 buf s r false (.agg #[]) HC.out (by rw [HN.out]; exact Nat.succ_pos n)) ?_
  case rn =>
    simp only [execOp]
    simp [unit_zero]
    rfl
  refine Ch.FromL.ops ?_
  simp only [Act.put, List.setIfInBounds_toArray, List.set_cons_zero, List.set_cons_succ]
  obtain ⟨w2, hw2⟩ : ∃ w2, w2 = ({ w1 with heap := w1.heap.setIfInBounds c (.chan 16 (buf.extract 1 buf.size) false s (r + 1) false) } : World) := ⟨_, rfl⟩
  rw [← hw2]
  have hk2 : ∀ k, k ≠ c → w2.heap[k]? = w1.heap[k]? := fun k hk => hw2 ▸ Ch.chan_other hk
  have hxc : x0 ≠ c := by
    rintro rfl
    have := HX.out.symm.trans HC.out
    simp at this
  have h2 : RingP w2 g b c L fr n := ⟨(hk2 g H1.out.apart.2.1).trans H1.out.head, (hk2 b H1.out.apart.2.2).trans H1.out.row, ⟨_, _, _, hw2 ▸ Ch.chan_same HC.out, by rw [Array.size_extract, HN.out]; omega⟩, H1.out.len, H1.out.lt, by have := H1.out.le; omega⟩
  have hx2 := (hk2 x0 hxc).trans HX.out
  have HX2 := Aside0.mk hx2
  have H2 := Aside0.mk h2
  have HK2 := Aside0.mk hk2
  have HW2 := Aside0.mk hw2
  clear hk2 h2 hx2 hw2 hxc z0 z1 z2
  go_upto_region 4 with (fail)
  obtain ⟨w3, hw3⟩ : ∃ w3, w3 = w2.alloc (.cells #[.int .i64 0, .int .i64 0, .int .i64 0, .int .i64 0] 60) := ⟨_, rfl⟩
  obtain ⟨x1, hx1⟩ : ∃ x1, x1 = w2.heap.size := ⟨_, rfl⟩
  rw [← hw3, ← hx1]
  have hb3 : Below w2.heap.size w2 w3 := hw3 ▸ below_alloc (Below.refl _ _) _
  have h3 := H2.out.below hb3
  have hx3 := (hb3.block x0 (Array.getElem?_eq_some_iff.1 HX2.out).1).trans HX2.out
  have hz3 : w3.heap[x1]? = some (.cells #[.int .i64 0, .int .i64 0, .int .i64 0, .int .i64 0] 60 (0, 0)) := by rw [hw3, hx1]; exact blk_new w2 _
  obtain ⟨z0, z1, z2⟩ := h3.cells
  obtain ⟨q0, q1, q2, q3, hq⟩ : ∃ q0 q1 q2 q3, L[fr]! = ⟨q0, q1, q2, q3⟩ := ⟨_, _, _, _, rfl⟩
  have hlf : fr < L.length := by have := h3.len; have := h3.lt; omega
  have hr : ∀ k u, (enc L[fr]!)[k]? = some u → w3.cell? ⟨b, fr * 4 + k, none⟩ = some u := fun k u hu => (blk_cell h3.row (fr * 4 + k)).trans (by rw [List.getElem?_toArray]; exact flat_get L fr hlf k u hu)
  rw [hq] at hr
  have r0 := hr 0 _ rfl
  have r1 := hr 1 _ rfl
  have r2 := hr 2 _ rfl
  have r3 := hr 3 _ rfl
  obtain ⟨f0, f1, f2, f3⟩ := frozen4 hx3
  obtain ⟨y0, y1, y2, y3⟩ := box4 hx3
  have hf16 : (fr : Int) < 16 := by have := h3.lt; omega
  have H3 := Aside0.mk h3
  have HX3 := Aside0.mk hx3
  have HZ3 := Aside0.mk hz3
  have HB3 := Aside0.mk hb3
  have HX1 := Aside0.mk hx1
  have HQ := Aside0.mk hq
  clear h3 hx3 hz3 hb3 hx1 hw3 hq hr hlf
  refine start_ (n := 12) (S := fun w' => w'.cell? ⟨g, 0, none⟩ = some (.slice (some ⟨b, 0, none⟩) 16 16) ∧ w'.cell? ⟨g, 1, none⟩ = some (.int .i64 (fr : Int)) ∧ w'.cell? ⟨b, fr * 4, none⟩ = some (.int .i64 q0) ∧ w'.cell? ⟨b, fr * 4 + 1, none⟩ = some (.int .i64 q1) ∧ w'.cell? ⟨b, fr * 4 + 2, none⟩ = some (.int .i64 q2) ∧ w'.cell? ⟨b, fr * 4 + 3, none⟩ = some (.int .i64 q3)) (ds := [10]) #[false, false, false, false, false, false, false, false, false, false, false, false] (by kernel_rfl) rfl rfl ⟨z0, z1, r0, r1, r2, r3⟩ (fun hHeld => ?_)
  refine pure_ (i := 0) (N := some 12) (v := ?_) (a' := ?_) #[true, false, false, false, false, false, false, false, false, false, false, false] rfl rfl (by kernel_rfl) (fun _ _ _ h => h) (Or.inl ⟨by rfl, ?_⟩) ?_ ?_
  rotate_left
  · intro w'
    go_simp
    with_reducible rfl
  rotate_left
  · simp only [Act.put, List.setIfInBounds_toArray, List.set_cons_zero, List.set_cons_succ, i64_w, i32_w]
    rfl
  refine pure_ (i := 1) (N := some 13) (v := ?_) (a' := ?_) #[true, true, false, false, false, false, false, false, false, false, false, false] rfl rfl (by kernel_rfl) (fun _ _ _ h => h) (Or.inl ⟨by rfl, ?_⟩) ?_ ?_
  rotate_left
  · intro w'
    go_simp
    with_reducible rfl
  rotate_left
  · simp only [Act.put, List.setIfInBounds_toArray, List.set_cons_zero, List.set_cons_succ, i64_w, i32_w]
    rfl
  refine pure_ (i := 2) (N := some 14) (v := ?_) (a' := ?_) #[true, true, true, false, false, false, false, false, false, false, false, false] rfl rfl (by kernel_rfl) (fun _ _ _ h => h) (Or.inl ⟨by rfl, ?_⟩) ?_ ?_
  rotate_left
  · intro w'
    go_simp
    with_reducible rfl
  rotate_left
  · simp only [Act.put, List.setIfInBounds_toArray, List.set_cons_zero, List.set_cons_succ, i64_w, i32_w]
    rfl
  refine pure_ (i := 4) (N := some 16) (v := ?_) (a' := ?_) #[true, true, true, false, true, false, false, false, false, false, false, false] rfl rfl (by kernel_rfl) (fun _ _ _ h => h) (Or.inl ⟨by rfl, ?_⟩) ?_ ?_
  rotate_left
  · intro w'
    go_simp
    with_reducible rfl
  rotate_left
  · simp only [Act.put, List.setIfInBounds_toArray, List.set_cons_zero, List.set_cons_succ, i64_w, i32_w]
    rfl
  refine pure_ (i := 5) (N := some 17) (v := ?_) (a' := ?_) #[true, true, true, false, true, true, false, false, false, false, false, false] rfl rfl (by kernel_rfl) (fun _ _ _ h => h) (Or.inl ⟨by rfl, ?_⟩) ?_ ?_
  rotate_left
  · intro w'
    go_simp
    with_reducible rfl
  rotate_left
  · simp only [Act.put, List.setIfInBounds_toArray, List.set_cons_zero, List.set_cons_succ, i64_w, i32_w]
    rfl
  refine pure_ (i := 6) (N := some 18) (v := ?_) (a' := ?_) #[true, true, true, false, true, true, true, false, false, false, false, false] rfl rfl (by kernel_rfl) (fun _ _ _ h => h) (Or.inl ⟨by rfl, ?_⟩) ?_ ?_
  rotate_left
  · intro w'
    go_simp
    with_reducible rfl
  rotate_left
  · simp only [Act.put, List.setIfInBounds_toArray, List.set_cons_zero, List.set_cons_succ, i64_w, i32_w]
    rfl
  refine take_ (i := 3) (N := some 15) (v := ?_) (a' := ?_) #[true, true, true, true, true, true, true, false, false, false, false, false] rfl rfl (by kernel_rfl) (fun _ _ _ h => h) (Or.inl ⟨by rfl, ?_⟩) hHeld ?_ ?_
  rotate_left
  · rintro w' ⟨s0, s1, s2, s3, s4, s5⟩
    go_simp
    with_reducible rfl
  rotate_left
  · simp only [Act.put, List.setIfInBounds_toArray, List.set_cons_zero, List.set_cons_succ, i64_w, i32_w]
    rfl
  refine take_ (i := 7) (N := some 19) (v := ?_) (a' := ?_) #[true, true, true, true, true, true, true, true, false, false, false, false] rfl rfl (by kernel_rfl) (fun _ _ _ h => h) (Or.inl ⟨by rfl, ?_⟩) hHeld ?_ ?_
  rotate_left
  · rintro w' ⟨s0, s1, s2, s3, s4, s5⟩
    go_simp
    with_reducible rfl
  rotate_left
  · simp only [Act.put, List.setIfInBounds_toArray, List.set_cons_zero, List.set_cons_succ, i64_w, i32_w]
    rfl
  refine pure_ (i := 8) (N := some 20) (v := ?_) (a' := ?_) #[true, true, true, true, true, true, true, true, true, false, false, false] rfl rfl (by kernel_rfl) (fun _ _ _ h => h) (Or.inl ⟨by rfl, ?_⟩) ?_ ?_
  rotate_left
  · intro w'
    go_simp
    with_reducible rfl
  rotate_left
  · simp only [Act.put, List.setIfInBounds_toArray, List.set_cons_zero, List.set_cons_succ, i64_w, i32_w]
    rfl
  refine take_ (i := 9) (N := some 21) (v := ?_) (a' := ?_) #[true, true, true, true, true, true, true, true, true, true, false, false] rfl rfl (by kernel_rfl) (fun _ _ _ h => h) (Or.inl ⟨by rfl, ?_⟩) hHeld ?_ ?_
  rotate_left
  · rintro w' ⟨s0, s1, s2, s3, s4, s5⟩
    go_simp
    with_reducible rfl
  rotate_left
  · simp only [Act.put, List.setIfInBounds_toArray, List.set_cons_zero, List.set_cons_succ, i64_w, i32_w]
    rfl
  refine last_ (i := 10) (N := none) #[true, true, true, true, true, true, true, true, true, true, true, false] rfl rfl (by kernel_rfl) (by decide) (fun K hK => ?_)
  refine skip_ (w1 := ?_) (by rfl) rfl ?_ ?_
  rotate_left
  · go_simp
    rfl
  refine hK.out _ _ ?_
  clear hK K
  refine pure_ (i := 11) (N := some 3) (v := ?_) (a' := ?_) #[true, true, true, true, true, true, true, true, true, true, true, true] rfl rfl (by kernel_rfl) (fun _ _ _ h => h) (Or.inl ⟨by rfl, ?_⟩) ?_ ?_
  rotate_left
  · intro w'
    go_simp
    with_reducible rfl
  rotate_left
  · simp only [Act.put, List.setIfInBounds_toArray, List.set_cons_zero, List.set_cons_succ, i64_w, i32_w]
    rfl
  refine done_ (by kernel_rfl) ?_


  obtain ⟨w4, hw4⟩ : ∃ w4, w4 = (((((w3.setCell ⟨x0, 0, none⟩ (.int .i64 q0)).setCell ⟨x0, 1, none⟩ (.int .i64 q1)).setCell ⟨x0, 2, none⟩ (.int .i64 q2)).setCell ⟨x0, 3, none⟩ (.int .i64 q3)).drew) := ⟨_, rfl⟩
  rw [← hw4]
  have HE4 := Aside0.mk (show w4.os = w3.os ∧ w4.tape = w3.tape ∧ w4.output = w3.output ∧ w4.heap.size = w3.heap.size from by rw [hw4]; exact ⟨rfl, rfl, rfl, by simp [World.setCell, World.drew]⟩)
  have hk4 : ∀ k, k ≠ x0 → w4.heap[k]? = w3.heap[k]? := fun k hk => by rw [hw4]; exact far4 _ _ _ _ hk
  have hx4 : w4.heap[x0]? = some (.cells #[.int .i64 q0, .int .i64 q1, .int .i64 q2, .int .i64 q3] 60 (0, 0)) := by rw [hw4]; exact put4 _ _ _ _ HX3.out
  have h4 : RingP w4 g b c L fr n := H3.out.same (hk4 g (Nat.ne_of_lt HO.out.1)) (hk4 b (Nat.ne_of_lt HO.out.2.1)) (hk4 c (Nat.ne_of_lt HO.out.2.2))
  have h01 : x1 ≠ x0 := by
    have h5 := (Array.getElem?_eq_some_iff.1 HX2.out).1
    rw [HX1.out]
    omega
  have hz4 := (hk4 x1 h01).trans HZ3.out
  clear z0 z1 z2 r0 r1 r2 r3 f0 f1 f2 f3 y0 y1 y2 y3 hHeld
  obtain ⟨z0, z1, z2⟩ := h4.cells
  obtain ⟨y0, y1, y2, y3⟩ := box4 hz4
  have hlf : fr < L.length := by have := h4.len; have := h4.lt; omega
  have f0 := row_frozen h4.row (fr * 4)
  have f1 := row_frozen h4.row (fr * 4 + 1)
  have f2 := row_frozen h4.row (fr * 4 + 2)
  have f3 := row_frozen h4.row (fr * 4 + 3)
  have hr : ∀ k u, (enc L[fr]!)[k]? = some u → w4.cell? ⟨b, fr * 4 + k, none⟩ = some u := fun k u hu => (blk_cell h4.row (fr * 4 + k)).trans (by rw [List.getElem?_toArray]; exact flat_get L fr hlf k u hu)
  rw [HQ.out] at hr
  have r0 : w4.cell? ⟨b, fr * 4, none⟩ = some (.int .i64 q0) := hr 0 _ rfl
  have r1 : w4.cell? ⟨b, fr * 4 + 1, none⟩ = some (.int .i64 q1) := hr 1 _ rfl
  have r2 : w4.cell? ⟨b, fr * 4 + 2, none⟩ = some (.int .i64 q2) := hr 2 _ rfl
  have r3 : w4.cell? ⟨b, fr * 4 + 3, none⟩ = some (.int .i64 q3) := hr 3 _ rfl
  have H4 := Aside0.mk h4
  have HX4 := Aside0.mk hx4
  have HZ4 := Aside0.mk hz4
  have HK4 := Aside0.mk hk4
  clear h4 hx4 hz4 hk4 hw4 hr hlf h01
  go_upto_region 5 with (fail)
  refine start_ (n := 11) (S := fun w' => w'.cell? ⟨g, 0, none⟩ = some (.slice (some ⟨b, 0, none⟩) 16 16) ∧ w'.cell? ⟨g, 1, none⟩ = some (.int .i64 (fr : Int)) ∧ w'.cell? ⟨x1, 0, none⟩ = some (.int .i64 0) ∧ w'.cell? ⟨x1, 1, none⟩ = some (.int .i64 0) ∧ w'.cell? ⟨x1, 2, none⟩ = some (.int .i64 0) ∧ w'.cell? ⟨x1, 3, none⟩ = some (.int .i64 0)) (ds := [10]) #[false, false, false, false, false, false, false, false, false, false, false] (by kernel_rfl) rfl rfl ⟨z0, z1, y0, y1, y2, y3⟩ (fun hHeld => ?_)
  refine pure_ (i := 0) (N := some 22) (v := ?_) (a' := ?_) #[true, false, false, false, false, false, false, false, false, false, false] rfl rfl (by kernel_rfl) (fun _ _ _ h => h) (Or.inl ⟨by rfl, ?_⟩) ?_ ?_
  rotate_left
  · intro w'
    go_simp
    with_reducible rfl
  rotate_left
  · simp only [Act.put, List.setIfInBounds_toArray, List.set_cons_zero, List.set_cons_succ, i64_w, i32_w]
    rfl
  refine pure_ (i := 1) (N := some 23) (v := ?_) (a' := ?_) #[true, true, false, false, false, false, false, false, false, false, false] rfl rfl (by kernel_rfl) (fun _ _ _ h => h) (Or.inl ⟨by rfl, ?_⟩) ?_ ?_
  rotate_left
  · intro w'
    go_simp
    with_reducible rfl
  rotate_left
  · simp only [Act.put, List.setIfInBounds_toArray, List.set_cons_zero, List.set_cons_succ, i64_w, i32_w]
    rfl
  refine pure_ (i := 2) (N := some 24) (v := ?_) (a' := ?_) #[true, true, true, false, false, false, false, false, false, false, false] rfl rfl (by kernel_rfl) (fun _ _ _ h => h) (Or.inl ⟨by rfl, ?_⟩) ?_ ?_
  rotate_left
  · intro w'
    go_simp
    with_reducible rfl
  rotate_left
  · simp only [Act.put, List.setIfInBounds_toArray, List.set_cons_zero, List.set_cons_succ, i64_w, i32_w]
    rfl
  refine pure_ (i := 4) (N := some 26) (v := ?_) (a' := ?_) #[true, true, true, false, true, false, false, false, false, false, false] rfl rfl (by kernel_rfl) (fun _ _ _ h => h) (Or.inl ⟨by rfl, ?_⟩) ?_ ?_
  rotate_left
  · intro w'
    go_simp
    with_reducible rfl
  rotate_left
  · simp only [Act.put, List.setIfInBounds_toArray, List.set_cons_zero, List.set_cons_succ, i64_w, i32_w]
    rfl
  refine pure_ (i := 5) (N := some 27) (v := ?_) (a' := ?_) #[true, true, true, false, true, true, false, false, false, false, false] rfl rfl (by kernel_rfl) (fun _ _ _ h => h) (Or.inl ⟨by rfl, ?_⟩) ?_ ?_
  rotate_left
  · intro w'
    go_simp
    with_reducible rfl
  rotate_left
  · simp only [Act.put, List.setIfInBounds_toArray, List.set_cons_zero, List.set_cons_succ, i64_w, i32_w]
    rfl
  refine pure_ (i := 6) (N := some 28) (v := ?_) (a' := ?_) #[true, true, true, false, true, true, true, false, false, false, false] rfl rfl (by kernel_rfl) (fun _ _ _ h => h) (Or.inl ⟨by rfl, ?_⟩) ?_ ?_
  rotate_left
  · intro w'
    go_simp
    with_reducible rfl
  rotate_left
  · simp only [Act.put, List.setIfInBounds_toArray, List.set_cons_zero, List.set_cons_succ, i64_w, i32_w]
    rfl
  refine take_ (i := 3) (N := some 25) (v := ?_) (a' := ?_) #[true, true, true, true, true, true, true, false, false, false, false] rfl rfl (by kernel_rfl) (fun _ _ _ h => h) (Or.inl ⟨by rfl, ?_⟩) hHeld ?_ ?_
  rotate_left
  · rintro w' ⟨s0, s1, s2, s3, s4, s5⟩
    go_simp
    with_reducible rfl
  rotate_left
  · simp only [Act.put, List.setIfInBounds_toArray, List.set_cons_zero, List.set_cons_succ, i64_w, i32_w]
    rfl
  refine take_ (i := 7) (N := some 29) (v := ?_) (a' := ?_) #[true, true, true, true, true, true, true, true, false, false, false] rfl rfl (by kernel_rfl) (fun _ _ _ h => h) (Or.inl ⟨by rfl, ?_⟩) hHeld ?_ ?_
  rotate_left
  · rintro w' ⟨s0, s1, s2, s3, s4, s5⟩
    go_simp
    with_reducible rfl
  rotate_left
  · simp only [Act.put, List.setIfInBounds_toArray, List.set_cons_zero, List.set_cons_succ, i64_w, i32_w]
    rfl
  refine take_ (i := 8) (N := some 30) (v := ?_) (a' := ?_) #[true, true, true, true, true, true, true, true, true, false, false] rfl rfl (by kernel_rfl) (fun _ _ _ h => h) (Or.inl ⟨by rfl, ?_⟩) hHeld ?_ ?_
  rotate_left
  · rintro w' ⟨s0, s1, s2, s3, s4, s5⟩
    go_simp
    with_reducible rfl
  rotate_left
  · simp only [Act.put, List.setIfInBounds_toArray, List.set_cons_zero, List.set_cons_succ, i64_w, i32_w]
    rfl
  refine pure_ (i := 9) (N := some 31) (v := ?_) (a' := ?_) #[true, true, true, true, true, true, true, true, true, true, false] rfl rfl (by kernel_rfl) (fun _ _ _ h => h) (Or.inl ⟨by rfl, ?_⟩) ?_ ?_
  rotate_left
  · intro w'
    go_simp
    with_reducible rfl
  rotate_left
  · simp only [Act.put, List.setIfInBounds_toArray, List.set_cons_zero, List.set_cons_succ, i64_w, i32_w]
    rfl
  refine last_ (i := 10) (N := none) #[true, true, true, true, true, true, true, true, true, true, true] rfl rfl (by kernel_rfl) (by decide) (fun K hK => ?_)
  refine skip_ (w1 := ?_) (by rfl) rfl ?_ ?_
  rotate_left
  · go_simp
    rfl
  refine hK.out _ _ ?_
  clear hK K
  refine done_ (by kernel_rfl) ?_


  obtain ⟨w5, hw5⟩ : ∃ w5, w5 = (((((w4.setCell ⟨b, fr * 4, none⟩ (.int .i64 0)).setCell ⟨b, fr * 4 + 1, none⟩ (.int .i64 0)).setCell ⟨b, fr * 4 + 2, none⟩ (.int .i64 0)).setCell ⟨b, fr * 4 + 3, none⟩ (.int .i64 0)).drew) := ⟨_, rfl⟩
  rw [← hw5]
  have HE5 := Aside0.mk (show w5.os = w4.os ∧ w5.tape = w4.tape ∧ w5.output = w4.output ∧ w5.heap.size = w4.heap.size from by rw [hw5]; exact ⟨rfl, rfl, rfl, by simp [World.setCell, World.drew]⟩)
  have hap := H4.out.apart
  have hk5 : ∀ k, k ≠ b → w5.heap[k]? = w4.heap[k]? := fun k hk => by rw [hw5]; exact far4 _ _ _ _ hk
  have hb5 : w5.heap[b]? = some (.cells (flat (L.set fr ⟨0, 0, 0, 0⟩)).toArray 60 (0, 0)) := by rw [hw5]; exact row_put H4.out.row (by have := H4.out.len; have := H4.out.lt; omega) 0 0 0 0
  have h5 : RingP w5 g b c (L.set fr ⟨0, 0, 0, 0⟩) fr n := ⟨(hk5 g hap.1).trans H4.out.head, hb5, by rw [hk5 c (Ne.symm hap.2.2)]; exact H4.out.chan, by rw [List.length_set]; exact H4.out.len, H4.out.lt, H4.out.le⟩
  have hx5 := (hk5 x0 (Ne.symm (Nat.ne_of_lt HO.out.2.1))).trans HX4.out
  clear z0 z1 z2 r0 r1 r2 r3 f0 f1 f2 f3 y0 y1 y2 y3 hHeld
  obtain ⟨p, hp⟩ : ∃ p, p = (fr + 1) % 16 := ⟨_, rfl⟩
  have hpl : ∀ W, RingP W g b c (L.set fr ⟨0, 0, 0, 0⟩) fr n → Calls Try.prog 56 #[.pointer (some ⟨g, 0, none⟩), .int .i64 1] W fun e w' => e = .returned (.int .i64 (p : Int)) ∧ Drawn0 W w' := fun W h => by rw [hp]; exact place_ W g b c fr n _ h 1 (by omega)
  have HPL := Aside0.mk hpl
  have H5 := Aside0.mk h5
  have HX5 := Aside0.mk hx5
  have HK5 := Aside0.mk hk5
  have HP := Aside0.mk hp
  obtain ⟨z0, z1, z2⟩ := h5.cells
  have f1 := row_frozen h5.head 1
  clear hpl h5 hx5 hk5 hp hap hb5 hw5
  go_upto_region 7 with (first | (go_at_call 56; with_reducible refine (HPL.out _ ?hr).mono ?_; (case hr => first | exact H5.out | exact H5.out.drewN _); rintro e w6 ⟨rfl, np, rfl⟩))
  obtain ⟨w6, hw6⟩ : ∃ w6, w6 = ((w5.drewN np).setCell ⟨g, 1, none⟩ (.int .i64 (p : Int))) := ⟨_, rfl⟩
  rw [← hw6]
  have HE6 := Aside0.mk (show w6.os = w5.os ∧ w6.tape = w5.tape ∧ w6.output = w5.output ∧ w6.heap.size = w5.heap.size from by rw [hw6]; exact ⟨rfl, rfl, rfl, by simp [World.setCell, World.drewN]⟩)
  have hk6 : ∀ k, k ≠ g → w6.heap[k]? = w5.heap[k]? := fun k hk => by rw [hw6]; exact Below.heap_setCell _ _ _ _ (by exact hk)
  have hap := H5.out.apart
  have hg6 : w6.heap[g]? = some (.cells #[.slice (some ⟨b, 0, none⟩) 16 16, .int .i64 (p : Int), .chan (some c)] 103 (0, 0)) := by
    have h0 := H5.out.head
    rw [hw6]
    simp [World.setCell, World.drewN, Array.getElem?_modify, h0]
  have h6 : RingP w6 g b c (L.set fr ⟨0, 0, 0, 0⟩) p n := ⟨hg6, (hk6 b (Ne.symm hap.1)).trans H5.out.row, by rw [hk6 c (Ne.symm hap.2.1)]; exact H5.out.chan, H5.out.len, by rw [HP.out]; omega, H5.out.le⟩
  have hx6 := (hk6 x0 (Ne.symm (Nat.ne_of_lt HO.out.1))).trans HX5.out
  have H6 := Aside0.mk h6
  have HX6 := Aside0.mk hx6
  have HK6 := Aside0.mk hk6
  clear z0 z1 z2 f1 hk6 hap hg6 h6 hx6 hw6
  obtain ⟨y0, y1, y2, y3⟩ := box4 HX6.out
  obtain ⟨f0, f1, f2, f3⟩ := frozen4 HX6.out
  go_wp2
  obtain ⟨w7, hw7⟩ : ∃ w7, w7 = ((((w6.setCell ⟨x0, 0, none⟩ (.int .i64 q0)).setCell ⟨x0, 1, none⟩ (.int .i64 q1)).setCell ⟨x0, 2, none⟩ (.int .i64 q2)).setCell ⟨x0, 3, none⟩ (.int .i64 q3)) := ⟨_, rfl⟩
  rw [← hw7]
  have hk7 : ∀ k, k ≠ x0 → w7.heap[k]? = w6.heap[k]? := fun k hk => by rw [hw7]; exact far4 _ _ _ _ hk
  have hx7 : w7.heap[x0]? = some (.cells #[.int .i64 q0, .int .i64 q1, .int .i64 q2, .int .i64 q3] 60 (0, 0)) := by rw [hw7]; exact put4 _ _ _ _ HX6.out
  have he7 : w7.os = w6.os ∧ w7.tape = w6.tape ∧ w7.output = w6.output ∧ w7.heap.size = w6.heap.size := by rw [hw7]; exact ⟨rfl, rfl, rfl, by simp [World.setCell]⟩
  refine bodyPost_ret (v := .tuple #[encV L[fr]!, .bool true]) ?_ rfl ?_
  · rw [HQ.out]
    exact results_ct (fn := Try.f54) (p := 2) (u := 3) (ty := 60) rfl _ _ x0 60 #[.int .i64 q0, .int .i64 q1, .int .i64 q2, .int .i64 q3] (0, 0) _ rfl hx7 Try.underlying60 rfl (by kernel_rfl)
  · have e2 : w2.os = w1.os ∧ w2.tape = w1.tape ∧ w2.output = w1.output ∧ w2.heap.size = w1.heap.size := by rw [HW2.out]; exact ⟨rfl, rfl, rfl, by simp⟩
    have ho := HO.out
    refine ⟨rfl, by rw [← HP.out]; exact H6.out.same (hk7 g (Nat.ne_of_lt ho.1)) (hk7 b (Nat.ne_of_lt ho.2.1)) (hk7 c (Nat.ne_of_lt ho.2.2)), ?_⟩
    have hs3 := HB3.out.size
    have hs1 := HB.out.size
    have hx0 := HX0.out
    refine ⟨?_, ?_, ?_, ?_, ?_⟩
    · rw [he7.1, HE6.out.1, HE5.out.1, HE4.out.1, HB3.out.os, e2.1, HB.out.os]
    · rw [he7.2.1, HE6.out.2.1, HE5.out.2.1, HE4.out.2.1, HB3.out.tape, e2.2.1, HB.out.tape]
    · rw [he7.2.2.1, HE6.out.2.2.1, HE5.out.2.2.1, HE4.out.2.2.1, HB3.out.output, e2.2.2.1, HB.out.output]
    · rw [he7.2.2.2, HE6.out.2.2.2, HE5.out.2.2.2, HE4.out.2.2.2]
      have := e2.2.2.2
      omega
    · intro k hk hg hb hc
      rw [hk7 k (by omega), HK6.out k hg, HK5.out k hb, HK4.out k (by omega), HB3.out.block k (by have := e2.2.2.2; omega), HK2.out k hc, HB.out.block k (by omega)]
end Go.Proofs.Ytpolofolibabiaa.Bs
