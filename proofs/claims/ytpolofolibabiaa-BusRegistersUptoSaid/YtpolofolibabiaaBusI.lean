/-
  Package bus: a device's write and read.
  No conditions.
-/
import Derived.Test.YtpolofolibabiaaBusH
namespace Go.Proofs.Ytpolofolibabiaa.Bs
open Go Go.RowKit Go.Lib Go.Proofs.YtpolofolibabiaaW.PrintWords Go.Proofs.YtpolofolibabiaaW.PrintLast Go.Proofs.YtpolofolibabiaaW.PrintMore
set_option linter.unusedVariables false
set_option linter.unusedSimpArgs false
theorem DevQ.per {w : World} {p : Pl} {lv : Value} {x : Dv} (h : DevQ w p lv x) (v : Int) : DevQ (w.setCell ⟨p.d, 5, none⟩ (.int .i64 v)) p lv { x with per := v } ∧ Fr (FS p) w (w.setCell ⟨p.d, 5, none⟩ (.int .i64 v)) := by
  have hf : Fr (FS p) w (w.setCell ⟨p.d, 5, none⟩ (.int .i64 v)) := Fr.put1 _ _ (.inl rfl)
  have hf' : Fr (fun k => k = p.d) w (w.setCell ⟨p.d, 5, none⟩ (.int .i64 v)) := Fr.put1 _ _ rfl
  have hn := h.d_ne
  refine ⟨h.turn hf ?_ ?_ rfl, hf⟩
  · rw [put_at h.head 5 (.int .i64 v)]
    simp [Dv.cells]
  · exact h.ring.fr hf' (fun e => hn (.inl e.symm)) (fun e => hn (.inr (.inl e.symm))) (fun e => hn (.inr (.inr e.symm)))
set_option maxHeartbeats 4000000 in
set_option maxRecDepth 100000 in
theorem write_ (w : World) (p : Pl) (lv : Value) (x : Dv) (h : DevQ w p lv x) (reg b : Int) (hb0 : 0 ≤ b) (hb1 : b < 256) : Calls Try.prog 47 #[.pointer (some ⟨p.d, 0, none⟩), .int .i64 reg, .int .u8 b] w fun e w' => e = .returned (.tuple #[]) ∧ DevQ w' p lv (x.write reg b) ∧ Fr (FS p) w w' := by
  have HP := Aside0.mk (fun on => power_ w p lv x h on)
  obtain ⟨z0, z1, z2, z3, z4, z5, z6, z7, z8, z9, z10⟩ := h.at
  have f5 := h.fz 5
  have hm : Int.tmod b 2 = b % 2 := Int.tmod_eq_emod_of_nonneg hb0
  have hw : IntKind.u8.wrap (Int.tmod b 2) = b % 2 := by rw [hm, IntKind.wrap_u8]; omega
  have hw2 : IntKind.i64.wrap b = b := by rw [IntKind.wrap_i64]; omega
  have H := Aside0.mk h
  have HM := Aside0.mk hm
  clear h hm
  by_cases h1 : reg = 1
  · subst h1
    go_enter Try.func47, Try.ntmps47
    go_wp2_with (go_at_call 53; with_reducible refine (HP.out _).mono ?_; rintro e w2 ⟨rfl, hq, hf⟩; have HQ := Aside0.mk hq; have HF := Aside0.mk hf; clear hq hf)
    go_end0
    refine ⟨rfl, ?_, HF.out⟩
    have hq := HQ.out
    simpa [Dv.write, HM.out] using hq
  · by_cases h2 : reg = 2
    · subst h2
      by_cases hb : b = 0
      · subst hb
        go_enter Try.func47, Try.ntmps47
        go_wp2
        go_end0
        have h3 := H.out.per 0
        have h4 := h3.1.per 256
        refine ⟨rfl, ?_, h3.2.trans h4.2⟩
        simpa [Dv.write] using h4.1
      · go_enter Try.func47, Try.ntmps47
        go_wp2
        go_end0
        have h3 := H.out.per b
        refine ⟨rfl, ?_, h3.2⟩
        simpa [Dv.write, hb] using h3.1
    · by_cases h5 : reg = 5
      · subst h5
        by_cases hb : b = 182
        · subst hb
          go_enter Try.func47, Try.ntmps47
          go_upto_region 10 with (go_at_call 53; with_reducible refine (HP.out _).mono ?_; rintro e w2 ⟨rfl, hq, hf⟩; have HQ := Aside0.mk hq; have HF := Aside0.mk hf; clear hq hf)
          clear z0 z1 z2 z3 z4 z5 z6 z7 z8 z9 z10 f5
          obtain ⟨z0, z1, z2, z3, z4, z5, z6, z7, z8, z9, z10⟩ := HQ.out.at
          have f5 := HQ.out.fz 5
          go_wp2
          go_end0
          have h3 := HQ.out.per 1
          refine ⟨rfl, ?_, HF.out.trans h3.2⟩
          simpa [Dv.write] using h3.1
        · go_enter Try.func47, Try.ntmps47
          go_wp2
          go_end0
          refine ⟨rfl, ?_, Fr.refl _ _⟩
          simpa [Dv.write, hb] using H.out
      · go_enter Try.func47, Try.ntmps47
        go_wp2
        go_end0
        refine ⟨rfl, ?_, Fr.refl _ _⟩
        simpa [Dv.write, h1, h2, h5] using H.out
set_option maxHeartbeats 4000000 in
set_option maxRecDepth 100000 in
theorem read_ (w : World) (p : Pl) (lv : Value) (x : Dv) (h : DevQ w p lv x) (reg : Int) : Calls Try.prog 49 #[.pointer (some ⟨p.d, 0, none⟩), .int .i64 reg] w fun e w' => e = .returned (.int .u8 (x.read reg)) ∧ Drawn0 w w' := by
  have HL := Aside0.mk (lenQ _ _ _ _ _ h.ring)
  obtain ⟨z0, z1, z2, z3, z4, z5, z6, z7, z8, z9, z10⟩ := h.at
  have hq := h.ring.le
  have hwi : IntKind.u8.wrap x.id = x.id % 256 := by rw [IntKind.wrap_u8]
  have hwp : IntKind.u8.wrap x.per = x.per % 256 := by rw [IntKind.wrap_u8]
  have hwq : IntKind.u8.wrap (x.q.length : Int) = (x.q.length : Int) := by rw [IntKind.wrap_u8]; omega
  clear h
  by_cases h0 : reg = 0
  · subst h0
    go_enter Try.func49, Try.ntmps49
    go_wp2
    go_ret
    exact ⟨by simp [Dv.read], 0, rfl⟩
  · by_cases h1 : reg = 1
    · subst h1
      cases ho : x.on with
      | true =>
        rw [ho] at z4
        go_enter Try.func49, Try.ntmps49
        go_wp2
        go_ret
        exact ⟨by simp [Dv.read, ho], 0, rfl⟩
      | false =>
        rw [ho] at z4
        go_enter Try.func49, Try.ntmps49
        go_wp2
        go_ret
        exact ⟨by simp [Dv.read, ho], 0, rfl⟩
    · by_cases h2 : reg = 2
      · subst h2
        go_enter Try.func49, Try.ntmps49
        go_wp2
        go_ret
        exact ⟨by simp [Dv.read], 0, rfl⟩
      · by_cases h3 : reg = 3
        · subst h3
          go_enter Try.func49, Try.ntmps49
          go_wp2_with (go_at_call 35; with_reducible refine HL.out.mono ?_; rintro e w2 ⟨rfl, hd⟩; have HD := Aside0.mk hd; clear hd)
          go_ret
          exact ⟨by simp [Dv.read], HD.out⟩
        · go_enter Try.func49, Try.ntmps49
          go_wp2
          go_ret
          exact ⟨by simp [Dv.read, h0, h1, h2, h3], 0, rfl⟩
end Go.Proofs.Ytpolofolibabiaa.Bs
