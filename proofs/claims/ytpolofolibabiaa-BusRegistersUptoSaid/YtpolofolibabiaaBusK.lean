/-
  Package bus: samples' bytes; a device's burst.
  No conditions.
-/
import Derived.Test.YtpolofolibabiaaBusJ
import Derived.Test.YtpolofolibabiaaBusP
namespace Go.Proofs.Ytpolofolibabiaa.Bs
open Go Go.RowKit Go.Lib Go.Proofs.YtpolofolibabiaaW.PrintWords Go.Proofs.YtpolofolibabiaaW.PrintLast Go.Proofs.YtpolofolibabiaaW.PrintMore
set_option linter.unusedVariables false
set_option linter.unusedSimpArgs false
def chk (l : List Int) : Int := l.foldl (Go.bits .xor .u8) 90
def Rw.seven (r : Rw) : List Int := [(r.x / 256) % 256, r.x % 256, (r.y / 256) % 256, r.y % 256, (r.z / 256) % 256, r.z % 256, r.t % 256]
def Rw.bytes (r : Rw) : List Int := r.seven ++ [chk r.seven]
theorem bytes_f (r : Rw) : bus_Bytes.f 9 r.x r.y r.z r.t = some r.bytes := by
  unfold bus_Bytes.f bus_Check.f
  simp [bus_Check.l0, rd, wrap64, Rw.bytes, Rw.seven, chk]
theorem bytes_ (w : World) (r : Rw) : Calls Try.prog 55 #[.agg #[.int .i64 r.x, .int .i64 r.y, .int .i64 r.z, .int .i64 r.t]] w fun e w' => ∃ v0_ : Value, e = .returned (v0_) ∧ Kd.R (Kd.int .u8) 5 w' w.heap.size (fun _ => True) v0_ r.bytes ∧ Below w.heap.size w w' :=
  bus_Bytes.calls 9 r.x r.y r.z r.t r.bytes w (bytes_f r)
def ffs : List Int := List.replicate 8 255
def blk8 (q : List Rw) (i : Nat) : List Int := if i < q.length then (q[i]!).bytes else ffs
def burstB (q : List Rw) (j : Nat) : List Int := (List.range j).flatMap (blk8 q)
theorem blk8_len (q : List Rw) (i : Nat) : (blk8 q i).length = 8 := by unfold blk8; split <;> rfl
theorem burstB_succ (q : List Rw) (j : Nat) : burstB q (j + 1) = burstB q j ++ blk8 q j := by
  unfold burstB
  rw [List.range_succ, List.flatMap_append, List.flatMap_singleton]
theorem burstB_len (q : List Rw) (j : Nat) : (burstB q j).length = 8 * j := by
  induction j with
  | zero => rfl
  | succ j ih => rw [burstB_succ, List.length_append, ih, blk8_len]; omega
theorem infoB : (Try.prog.info? 5).map (fun i => (i.zero, i.size, i.bytes)) = some (some (.int .u8 0), 1, 1) := by kernel_rfl
theorem head_drop (q : List Rw) (j : Nat) : (q.drop j).headD Rw.no = if j < q.length then q[j]! else Rw.no := by
  split
  · rename_i h
    rw [List.drop_eq_getElem_cons h, getElem!_pos q j h]
    rfl
  · rename_i h
    rw [List.drop_of_length_le (by omega)]
    rfl
theorem Fr.of_grown {w w1 : World} {row : Option Nat} (h : w.grownBy w1 row) : Fr (fun k => some k = row) w w1 := ⟨h.os, h.tape, h.output, h.size, fun k hk hn => h.block k hk hn⟩
theorem Fr.grown {S : Nat → Prop} {w W w1 : World} {row : Option Nat} (h : Fr S w W) (hg : W.grownBy w1 row) (hr : ∀ k, row = some k → w.heap.size ≤ k) : Fr S w w1 :=
  ⟨hg.os.trans h.os, hg.tape.trans h.tape, hg.output.trans h.output, Nat.le_trans h.size hg.size, fun k hk hn => (hg.block k (Nat.lt_of_lt_of_le hk h.size) (fun e => by have := hr k e.symm; omega)).trans (h.block k hk hn)⟩
abbrev RB (w : World) (base : Nat) (v : Value) (bs : List Int) : Prop := Kd.R (Kd.int .u8) 5 w base (fun _ => True) v bs
theorem RB.at {w : World} {base : Nat} {v : Value} {bs : List Int} (h : RB w base v bs) (k : Nat) (hk : v.ownBlock = some k) : base ≤ k ∧ ∃ cs, w.heap[k]? = some (.cells cs 5 (0, 0)) := by
  obtain ⟨inner, ho⟩ := Kd.R_own h
  exact ⟨own_base ho k hk, own_typed ho k hk⟩
theorem RB.fr {S : Nat → Prop} {w w1 : World} {base : Nat} {v : Value} {bs : List Int} (h : RB w base v bs) (hf : Fr S w w1) (hs : ∀ k cs, w.heap[k]? = some (.cells cs 5 (0, 0)) → ¬ S k) : RB w1 base v bs :=
  Kd.R_mono (Kd.R_move (Kd.R_bound h) (fun k ⟨ho, _, hlt, q, hq, cells, hc⟩ => hf.block k hlt (hs k cells (by have hq' : q = 5 := (by simpa [Kd.int, Kd.scalar] using hq); rw [← hq']; exact hc)))) (fun _ hk => hk.1)
theorem FS_notB {w : World} {p : Pl} {lv : Value} {x : Dv} (h : DevQ w p lv x) (k : Nat) (cs : Array Value) (hk : w.heap[k]? = some (.cells cs 5 (0, 0))) : ¬ FS p k := by
  rintro (e | e | e | e)
  · rw [e, h.head] at hk
    simp at hk
  · obtain ⟨_, _, _, k2⟩ := ring_head h.ring
    rw [e, k2] at hk
    simp at hk
  · obtain ⟨_, k2⟩ := ring_row h.ring
    rw [e, k2] at hk
    simp at hk
  · obtain ⟨_, _, _, _, _, _, k2⟩ := ring_chan h.ring
    rw [e, k2] at hk
    simp at hk
theorem list_notB {w : World} {p : Pl} {lv : Value} {x : Dv} (h : DevQ w p lv x) (k : Nat) (cs : Array Value) (hk : w.heap[k]? = some (.cells cs 5 (0, 0))) : lv.ownBlock ≠ some k := by
  intro hm
  rcases h.list with ⟨_, rfl⟩ | ⟨m', cap, cs2, rfl, _, h2, _⟩
  · simp [Value.ownBlock] at hm
  · simp only [Value.ownBlock, Option.some.injEq] at hm
    rw [← hm, h2] at hk
    simp at hk
theorem DevQ.grownB {w w1 : World} {p : Pl} {lv v : Value} {x : Dv} {base : Nat} {bs : List Int} (h : DevQ w p lv x) (hr : RB w base v bs) (hg : w.grownBy w1 v.ownBlock) : DevQ w1 p lv x := by
  have hno : ∀ k, FS p k → some k ≠ v.ownBlock := fun k hk e => by
    obtain ⟨_, cs, hc⟩ := RB.at hr k e.symm
    exact FS_notB h k cs hc hk
  refine h.keep (Fr.of_grown hg) (hno _ (.inl rfl)) (hno _ (.inr (.inl rfl))) (hno _ (.inr (.inr (.inl rfl)))) (hno _ (.inr (.inr (.inr rfl)))) (fun m hm e => ?_)
  obtain ⟨_, cs, hc⟩ := RB.at hr m e.symm
  exact list_notB h m cs hc hm
theorem RB.cells {w : World} {base : Nat} {A : Option Addr} {n c : Nat} {bs : List Int} (h : RB w base (.slice A n c) bs) (hn : 0 < bs.length) : ∃ g cur, A = some ⟨g, 0, none⟩ ∧ base ≤ g ∧ w.heap[g]? = some (.cells cur 5 (0, 0)) ∧ ∀ j, j < bs.length → cur[j]? = some (.int .u8 bs[j]!) := by
  have ho := Kd.own_of_R h
  obtain ⟨hlen, ⟨hv, hz⟩ | ⟨g, cap, cur, hv, hg, hc, hnc, hm, hs, ht⟩⟩ := ho
  · omega
  · simp only [Value.slice.injEq] at hv
    refine ⟨g, cur, hv.1, hg, hc, fun j hj => ?_⟩
    have h1 : (cur.toList.take (bs.length * 1))[j]? = some (.int .u8 bs[j]!) := by
      rw [ht, encs, List.getElem?_map, List.getElem?_eq_getElem hj, getElem!_pos bs j hj]
      rfl
    rw [List.getElem?_take] at h1
    split at h1
    · rw [Array.getElem?_toList] at h1
      exact h1
    · cases h1
/-- A row of bytes that is read, made since base. -/
def ByteRow (w : World) (base : Nat) (v : Value) (bs : List Int) : Prop :=
  (v = .slice none 0 0 ∧ bs = []) ∨ ∃ g cap cs, v = .slice (some ⟨g, 0, none⟩) bs.length cap ∧ base ≤ g ∧ w.heap[g]? = some (.cells cs 5 (0, 0)) ∧ bs.length ≤ cap ∧ ∀ j, j < bs.length → cs[j]? = some (.int .u8 bs[j]!)
set_option maxHeartbeats 8000000 in
set_option maxRecDepth 100000 in
theorem burst_ (w : World) (p : Pl) (lv : Value) (x : Dv) (h : DevQ w p lv x) (n : Nat) (hn0 : 0 < n) (hn : n ≤ 128) : Calls Try.prog 48 #[.pointer (some ⟨p.d, 0, none⟩), .int .i64 (n : Int)] w fun e w' => ∃ v, e = .returned v ∧ ByteRow w' w.heap.size v ((burstB x.q ((n + 7) / 8)).take n) ∧ DevQ w' p lv { x with q := x.q.drop ((n + 7) / 8) } ∧ Fr (FS p) w w' := by
  have H := Aside0.mk h
  clear h
  go_enter Try.func48, Try.ntmps48
  go_wp2_with fail
  obtain ⟨K, hK⟩ : ∃ K, K = (n + 7) / 8 := ⟨_, rfl⟩
  refine Cu.wp_loop (Cu.rep 4 Cu.f (Cu.rep 26 Cu.t (Cu.rep 4 Cu.f []))) 26 (fun kq us_ w' => ∃ j : Nat, Aside0 (kq + j = K) ∧ Aside0 (RB w' w.heap.size (Cu.nth us_ 0) (burstB x.q j)) ∧ Aside0 (DevQ w' p lv { x with q := x.q.drop j }) ∧ Aside0 (Fr (FS p) w w')) K ?_ (by kernel_rfl) (by kernel_rfl) ?_
  · try dsimp only [Cu.pick, Cu.rep, Cu.nth]
    exact ⟨0, ⟨rfl⟩, ⟨Kd.R_nil _ _ _ _ _⟩, H, ⟨Fr.refl _ _⟩⟩
  · have HK := Aside0.mk hK
    clear hK H
    intro gk wr u4 u5 u6 u7 u8 u9 u10 u11 u12 u13 u14 u15 u16 u17 u18 u19 u20 u21 u22 u23 u24 u25 u26 u27 u28 u29
    try dsimp only [Cu.over, Cu.rep, Cu.nth]
    intro hrel _ _ _ _
    obtain ⟨j, HJ, HR, HD, HF⟩ := hrel
    obtain ⟨A, cp, rfl⟩ := Kd.R_slice HR.out
    have hbl := burstB_len x.q j
    have hsu := burstB_succ x.q j
    obtain ⟨bs, hbs⟩ : ∃ bs, bs = burstB x.q j := ⟨_, rfl⟩
    rw [← hbs] at HR hbl hsu ⊢
    have HS := Aside0.mk (And.intro hsu hbs)
    have hcp := (Kd.R_reads' HR.out).2.1
    clear hbs hsu
    by_cases hj : 8 * j < n
    · have hjd : decide ((bs.length : Int) < (n : Int)) = true := decide_eq_true (by omega)
      have hjl : bs.length < n := by omega
      obtain ⟨z0, z1, z2, z3, z4, z5, z6, z7, z8, z9, z10⟩ := HD.out.at
      have HPO := Aside0.mk (popQ' wr p.g p.b p.c (x.q.drop j) HD.out.ring)
      have HBL := Aside0.mk hbl
      clear hbl
      go_upto_region 3 with (go_at_call 54; with_reducible refine HPO.out.mono ?_; rintro e w3 ⟨x0, x1, x2, x3, there, rfl, HT3, HR3, HF3⟩)
      have hd3 : DevQ w3 p lv { x with q := x.q.drop (j + 1) } := by
        have hr3 := HR3.out
        rw [List.tail_drop] at hr3
        exact HD.out.turn (HF3.out.mono RS_FS) (HF3.out.blk HD.out.head HD.out.d_ne) hr3 rfl
      have ho3 : RB w3 w.heap.size (.slice A bs.length cp) bs := HR.out.fr (HF3.out.mono RS_FS) (FS_notB HD.out)
      have hf3 : Fr (FS p) w w3 := HF.out.trans (HF3.out.mono RS_FS)
      obtain ⟨w4, hw4⟩ : ∃ w4, w4 = w3.alloc (.cells #[.int .i64 x0, .int .i64 x1, .int .i64 x2, .int .i64 x3] 60) := ⟨_, rfl⟩
      rw [← hw4]
      have hb4 : Below w3.heap.size w3 w4 := hw4 ▸ below_alloc (Below.refl _ _) _
      have hbx : w4.heap[w3.heap.size]? = some (.cells #[.int .i64 x0, .int .i64 x1, .int .i64 x2, .int .i64 x3] 60 (0, 0)) := by rw [hw4]; exact blk_new w3 _
      have HD4 := Aside0.mk (hd3.below hb4)
      have HO4 := Aside0.mk (Kd.R_below ho3 hb4)
      have HF4 := Aside0.mk (hf3.step hb4)
      obtain ⟨b0, b1, b2, b3⟩ := box4 hbx
      have HT := Aside0.mk (show there = decide (j < x.q.length) ∧ (there = true → blk8 x.q j = (⟨x0, x1, x2, x3⟩ : Rw).bytes) ∧ (there = false → blk8 x.q j = ffs) from by
        have h1 := HT3.out.1
        have h2 := HT3.out.2
        rw [head_drop] at h2
        by_cases hq : j < x.q.length
        · rw [if_pos hq] at h2
          have h3 : there = true := by rw [h1, List.drop_eq_getElem_cons hq]; rfl
          rw [h3]
          exact ⟨by simp [hq], (fun _ => by unfold blk8; rw [if_pos hq, h2]), (fun e => by cases e)⟩
        · have h3 : there = false := by rw [h1, List.drop_of_length_le (by omega)]; rfl
          rw [h3]
          exact ⟨by simp [hq], (fun e => by cases e), (fun _ => by unfold blk8; rw [if_neg hq])⟩)
      clear hd3 ho3 hf3 hb4 hbx hw4 HR3 HF3 HPO HT3 HD HR HF z0 z1 z2 z3 z4 z5 z6 z7 z8 z9 z10
      generalize w3.heap.size = y3 at b0 b1 b2 b3 ⊢
      have hl5 : ((bs.length + 8) * 1 : Nat) ≤ 140737488355328 := by have := HBL.out; omega
      cases there with
      | true =>
        go_wp2_with (first | (go_at_call 55; with_reducible refine (bytes_ w4 ⟨x0, x1, x2, x3⟩).mono ?_; rintro e w5 ⟨v5, rfl, hr5, hb5⟩; obtain ⟨A5, c5, hv5⟩ := Kd.R_slice hr5; subst hv5; have HC5 := Aside0.mk (Kd.R_reads' hr5).2.2; have HD5 := Aside0.mk (HD4.out.below hb5); have HO5 := Aside0.mk (Kd.R_below HO4.out hb5); have HF5 := Aside0.mk (HF4.out.step hb5); clear hr5 hb5) | (at_builtin; refine Kd.R_append_row (Value.int .u8) 0 (h1 := fun _ => rfl) (w0 := w5) w.heap.size rfl (.tmp 20) (.tmp 22) 37 5 (.int .u8 0) 1 rfl Try.underlying37 infoB rfl (by omega) (.slice A bs.length cp) bs (Rw.bytes ⟨x0, x1, x2, x3⟩) A5 _ c5 (fun _ => True) rfl rfl (fun _ _ => trivial) ?aO ?aR (Below.refl _ _) ?aS ?aL ?_; (case aO => exact HO5.out); (case aR => exact HC5.out); (case aS => exact HF5.out.size); (case aL => exact hl5); intro v6 w6 ho hb hg hat; have HO6 := Aside0.mk ho; have HG6 := Aside0.mk hg; clear ho hb hg hat))
        have hk := HJ.out
        have hK := HK.out
        refine Cu.handed (K - (j + 1)) (by omega) (by assumption) ?_ (by kernel_rfl) (by kernel_rfl)
        try dsimp only [Cu.pick, Cu.rep, Cu.nth]
        refine ⟨j + 1, ⟨by omega⟩, ⟨?_⟩, ⟨HD5.out.grownB HO5.out HG6.out⟩, ⟨HF5.out.grown HG6.out (fun k hk => (RB.at HO5.out k hk).1)⟩⟩
        rw [HS.out.1, HT.out.2.1 trivial]
        exact HO6.out
      | false =>
        go_wp2_with fail
        refine Cu.wp_loop (Cu.rep 4 Cu.f (Cu.rep 1 Cu.t (Cu.rep 19 Cu.f (Cu.rep 6 Cu.t (Cu.rep 4 Cu.f []))))) 7 (fun kq us_ w' => ∃ i : Nat, (Cu.nth us_ 1) = .int .i64 (i : Int) ∧ Aside0 (kq + i = 8) ∧ Aside0 (RB w' w.heap.size (Cu.nth us_ 0) (bs ++ List.replicate i 255)) ∧ Aside0 (DevQ w' p lv { x with q := x.q.drop (j + 1) }) ∧ Aside0 (Fr (FS p) w w')) 8 ?_ (by kernel_rfl) (by kernel_rfl) ?_
        · try dsimp only [Cu.pick, Cu.rep, Cu.nth]
          refine ⟨0, rfl, ⟨rfl⟩, ⟨?_⟩, HD4, HF4⟩
          rw [List.replicate_zero, List.append_nil]
          exact HO4.out
        · clear HD4 HO4 HF4 b0 b1 b2 b3
          intro gi wi r4 r24 r25 r26 r27 r28 r29
          try dsimp only [Cu.over, Cu.rep, Cu.nth]
          intro hrel _ _ _ _
          obtain ⟨i, rfl, HI, HRi, HDi, HFi⟩ := hrel
          obtain ⟨Ai, cpi, rfl⟩ := Kd.R_slice HRi.out
          obtain ⟨bi, hbi⟩ : ∃ bi, bi = bs ++ List.replicate i 255 := ⟨_, rfl⟩
          rw [← hbi] at HRi ⊢
          have HBI := Aside0.mk hbi
          have hil : bi.length = bs.length + i := by rw [hbi, List.length_append, List.length_replicate]
          have HIL := Aside0.mk hil
          clear hbi hil
          by_cases hi : i < 8
          · have hid : decide ((i : Int) < 8) = true := decide_eq_true (by omega)
            have hli : (bi.length + 1) * 1 ≤ 140737488355328 := by have := HIL.out; omega
            go_wp2_with (at_builtin; refine Kd.R_append (Kd.int .u8) (w0 := wi) w.heap.size rfl (.tmp 26) (.tmp 27) 37 5 (.int .u8 0) 1 rfl Try.underlying37 infoB rfl (by decide) (by omega) (.slice Ai bi.length cpi) bi 255 [_] (fun _ => True) (fun _ => False) rfl rfl ?aP (fun _ hk => hk.elim) ?aF ?aO ?aB ?aS ?aL ?_; (case aP => rfl); (case aF => exact (fun _ _ => trivial)); (case aO => exact HRi.out); (case aB => exact ⟨rfl, rfl, rfl, Nat.le_refl _, fun _ _ => rfl⟩); (case aS => exact HFi.out.size); (case aL => exact hli); intro v6 w6 ho hb hg hat; have HO6 := Aside0.mk ho; have HG6 := Aside0.mk hg; clear ho hb hg hat)
            have hi8 := HI.out
            refine Cu.handed (8 - (i + 1)) (by omega) (by assumption) ?_ (by kernel_rfl) (by kernel_rfl)
            try dsimp only [Cu.pick, Cu.rep, Cu.nth]
            refine ⟨i + 1, by rw [Int.natCast_add]; rfl, ⟨by omega⟩, ⟨?_⟩, ⟨HDi.out.grownB HRi.out HG6.out⟩, ⟨HFi.out.grown HG6.out (fun k hk => (RB.at HRi.out k hk).1)⟩⟩
            rw [List.replicate_succ', ← List.append_assoc, ← HBI.out]
            exact HO6.out
          · have hid : decide ((i : Int) < 8) = false := decide_eq_false (by omega)
            go_wp2
            have hk := HJ.out
            have hK := HK.out
            have hi8 := HI.out
            refine Cu.handed (K - (j + 1)) (by omega) (by assumption) ?_ (by kernel_rfl) (by kernel_rfl)
            try dsimp only [Cu.pick, Cu.rep, Cu.nth]
            refine ⟨j + 1, ⟨by omega⟩, ⟨?_⟩, HDi, HFi⟩
            rw [HS.out.1, HT.out.2.2 trivial, show ffs = List.replicate i 255 by rw [show i = 8 by omega]; rfl, ← HBI.out]
            exact HRi.out
    · have hjd : decide ((bs.length : Int) < (n : Int)) = false := decide_eq_false (by omega)
      have hjl : ¬ bs.length < n := by omega
      have hncp : (n : Int) ≤ (cp : Int) := by omega
      have hni : ((n : Nat) : Int) ≠ 0 := by omega
      have hk := HJ.out
      have hK := HK.out
      have hbl' := hbl
      go_wp2
      go_ret
      have hjK : j = K := by
        by_cases h0 : gk = 0
        · omega
        · omega
      refine ⟨_, rfl, ?_, by rw [← hK, ← hjK]; exact HD.out, HF.out⟩
      have hlen : ((burstB x.q ((n + 7) / 8)).take n).length = n := by rw [List.length_take, burstB_len]; omega
      right
      obtain ⟨g, cur, hA, hbg, hg, hcs⟩ := RB.cells HR.out (by omega)
      refine ⟨g, n, cur, ?_, hbg, hg, by omega, fun i hi => ?_⟩
      · rw [hlen, hA]
        rfl
      · rw [hlen] at hi
        have h1 := hcs i (by omega)
        rw [h1]
        have h2 : i < (burstB x.q ((n + 7) / 8)).length := by rw [burstB_len]; omega
        rw [getElem!_pos ((burstB x.q ((n + 7) / 8)).take n) i (by rw [hlen]; exact hi), List.getElem_take]
        rw [getElem!_pos bs i (by omega)]
        have h3 : bs = burstB x.q ((n + 7) / 8) := by rw [HS.out.2, hjK, hK]
        simp only [h3]
end Go.Proofs.Ytpolofolibabiaa.Bs
