/-
  Package ring at api.Raw: Clear.
  No conditions.
-/
import Derived.Test.YtpolofolibabiaaBusD
namespace Go.Proofs.Ytpolofolibabiaa.Bs
open Go Go.RowKit Go.Lib Go.Proofs.YtpolofolibabiaaW.PrintWords Go.Proofs.YtpolofolibabiaaW.PrintLast Go.Proofs.YtpolofolibabiaaW.PrintMore
set_option linter.unusedVariables false
set_option linter.unusedSimpArgs false
theorem popQ' (w : World) (g b c : Nat) (q : List Rw) (h : RingQ w g b c q) : Calls Try.prog 54 #[.pointer (some ⟨g, 0, none⟩)] w fun e w' => ∃ x0 x1 x2 x3 there, e = .returned (.tuple #[.agg #[.int .i64 x0, .int .i64 x1, .int .i64 x2, .int .i64 x3], .bool there]) ∧ Aside0 (there = !q.isEmpty ∧ q.headD Rw.no = ⟨x0, x1, x2, x3⟩) ∧ Aside0 (RingQ w' g b c q.tail) ∧ Aside0 (Fr (RS g b c) w w') :=
  (popQ w g b c q h).mono fun e w' ⟨he, hr, hf⟩ => ⟨_, _, _, _, _, he, ⟨rfl, rfl⟩, ⟨hr⟩, ⟨hf⟩⟩
set_option maxHeartbeats 4000000 in
set_option maxRecDepth 100000 in
theorem clearQ (w : World) (g b c : Nat) (q : List Rw) (h : RingQ w g b c q) : Calls Try.prog 57 #[.pointer (some ⟨g, 0, none⟩)] w fun e w' => e = .returned (.tuple #[]) ∧ RingQ w' g b c [] ∧ Fr (RS g b c) w w' := by
  have HP := Aside0.mk (popQ' w g b c q h)
  have hql := h.le
  clear h
  go_enter Try.func57, Try.ntmps57
  go_upto_block 0 with (go_at_call 54; with_reducible refine HP.out.mono ?_; rintro e w1 ⟨x0, x1, x2, x3, there, rfl, HT1, HR1, HF1⟩)
  obtain ⟨w2, hw2⟩ : ∃ w2, w2 = w1.alloc (.cells #[.int .i64 x0, .int .i64 x1, .int .i64 x2, .int .i64 x3] 60) := ⟨_, rfl⟩
  rw [← hw2]
  have hx : w2.heap[w1.heap.size]? = some (.cells #[.int .i64 x0, .int .i64 x1, .int .i64 x2, .int .i64 x3] 60 (0, 0)) := by rw [hw2]; exact blk_new w1 _
  have hb2 : Below w1.heap.size w1 w2 := hw2 ▸ below_alloc (Below.refl _ _) _
  have hr2 := HR1.out.below hb2
  have hf2 := HF1.out.step hb2
  have hxs := HF1.out.size
  generalize w1.heap.size = x at hx hxs ⊢
  have hst : ∃ kq : Nat, kq = (if there then q.tail.length + 1 else 0) ∧ (there = false → q.tail = []) := ⟨_, rfl, fun e => by have := HT1.out.1; rw [e] at this; cases q <;> simp at *⟩
  obtain ⟨kq, hk, he⟩ := hst
  have hinit : Aside0 (kq = (if there then q.tail.length + 1 else 0)) ∧ Aside0 (there = false → q.tail = []) ∧ Aside0 (w2.heap[x]? = some (.cells #[.int .i64 x0, .int .i64 x1, .int .i64 x2, .int .i64 x3] 60 (0, 0)) ∧ w.heap.size ≤ x) ∧ Aside0 (RingQ w2 g b c q.tail) ∧ Aside0 (Fr (RS g b c) w w2) := ⟨⟨hk⟩, ⟨he⟩, ⟨hx, hxs⟩, ⟨hr2⟩, ⟨hf2⟩⟩
  clear hk he hx hxs hr2 hf2 hb2 hw2 HT1 HR1 HF1
  go_wp2_with fail
  refine Cu.wp_loop (Cu.rep 2 Cu.f (Cu.rep 2 Cu.t (Cu.rep 5 Cu.f (Cu.rep 7 Cu.t [])))) 9 (fun kq us_ w' => ∃ x t p r0 r1 r2 r3, (Cu.nth us_ 0) = .pointer (some ⟨x, 0, none⟩) ∧ (Cu.nth us_ 1) = .bool t ∧ Aside0 (kq = (if t then p.length + 1 else 0)) ∧ Aside0 (t = false → p = []) ∧ Aside0 (w'.heap[x]? = some (.cells #[.int .i64 r0, .int .i64 r1, .int .i64 r2, .int .i64 r3] 60 (0, 0)) ∧ w.heap.size ≤ x) ∧ Aside0 (RingQ w' g b c p) ∧ Aside0 (Fr (RS g b c) w w')) kq ?_ (by kernel_rfl) (by kernel_rfl) ?_
  · try dsimp only [Cu.pick, Cu.rep, Cu.nth]
    exact ⟨x, there, q.tail, x0, x1, x2, x3, rfl, rfl, hinit⟩
  · intro gk wr u2 u3 u9 u10 u11 u12 u13 u14 u15
    try dsimp only [Cu.over, Cu.rep, Cu.nth]
    intro hrel _ _ _ _
    obtain ⟨y, t, p, r0, r1, r2, r3, rfl, rfl, HK, HE, HX, HR, HF⟩ := hrel
    clear hinit HP
    cases t with
    | true =>
      obtain ⟨z0, z1, z2, z3⟩ := box4 HX.out.1
      go_wp2_with (go_at_call 54; with_reducible refine (popQ' _ g b c p (HR.out.below (below_alloc (Below.refl _ _) _))).mono ?_; rintro e w3 ⟨v0, v1, v2, v3, there, rfl, HT3, HR3, HF3⟩)
      have ho := HR.out.old
      have hn : ¬ RS g b c wr.heap.size := by rintro (e | e | e) <;> omega
      refine Cu.handed (if there then p.tail.length + 1 else 0) ?_ (by assumption) ?_ (by kernel_rfl) (by kernel_rfl)
      · have h1 := HK.out
        have h2 := HT3.out.1
        rw [if_pos trivial] at h1
        rw [h1]
        cases p with
        | nil => rw [h2]; simp
        | cons a p => rw [h2]; simp
      · try dsimp only [Cu.pick, Cu.rep, Cu.nth]
        refine ⟨wr.heap.size, there, p.tail, r0, r1, r2, r3, rfl, rfl, ⟨rfl⟩, ⟨?_⟩, ⟨?_, HF.out.size⟩, HR3, ⟨(HF.out.alloc _).trans HF3.out⟩⟩
        · intro e
          have h2 := HT3.out.1
          rw [e] at h2
          cases p <;> simp at *
        · exact HF3.out.blk (blk_new wr _) hn
    | false =>
      go_wp2
      go_end0
      have hp := HE.out (by trivial)
      refine ⟨rfl, ?_, HF.out⟩
      rw [← hp]
      exact HR.out
end Go.Proofs.Ytpolofolibabiaa.Bs
