/-
  Package bus: Do.
  No conditions.
-/
import Derived.Test.YtpolofolibabiaaBusO
namespace Go.Proofs.Ytpolofolibabiaa.Bs
open Go Go.RowKit Go.Lib Go.Proofs.YtpolofolibabiaaW.PrintWords Go.Proofs.YtpolofolibabiaaW.PrintLast Go.Proofs.YtpolofolibabiaaW.PrintMore
set_option linter.unusedVariables false
set_option linter.unusedSimpArgs false
structure GoodTx (ad reg : Int) (wl : List Int) (n : Nat) : Prop where
  a0 : 0 ≤ ad
  a1 : ad ≤ 127
  r0 : 0 ≤ reg
  r1 : reg ≤ 5
  w8 : wl.length ≤ 8
  rw : 0 < wl.length → n = 0
  rd : wl.length = 0 → 0 < n
  n1 : n ≤ 128
theorem good_f {ad reg : Int} {wl : List Int} {n : Nat} (h : GoodTx ad reg wl n) : bus_Good.f 1 ad reg wl (n : Int) = some true := by
  obtain ⟨h1, h2, h3, h4, h5, h6, h7, h8⟩ := h
  unfold bus_Good.f
  rw [if_neg (by omega), if_neg (by omega), if_neg (by omega)]
  have hd : decide (reg > 5) = false := decide_eq_false (by omega)
  rw [hd]
  simp only [bus_Good.j0]
  rw [if_neg Bool.noConfusion]
  by_cases hl : 0 < wl.length
  · rw [if_pos (by omega), if_pos (by omega), h6 hl]
    rfl
  · rw [if_neg (by omega), if_pos (by omega)]
    have hd2 : decide ((n : Int) ≤ 128) = true := decide_eq_true (by omega)
    rw [hd2]
def corrupt (b : List Int) (f : Fl) : List Int := b.set (f.idx.toNat % b.length) (Go.bits .xor .u8 (b[f.idx.toNat % b.length]!) f.xor)
def doR (ds : List Bd) (f : Fl) (ad reg : Int) (wl : List Int) (n : Nat) : Int × List Int × List Bd :=
  if f.kind = 1 ∨ ¬ fi ds ad < ds.length then (2, [], ds) else
  if f.kind = 2 then (3, [], ds.set (fi ds ad) { ds[fi ds ad]! with x := ds[fi ds ad]!.x.doesD reg wl n }) else
  (1, (if f.kind = 3 ∧ 0 < (ds[fi ds ad]!.x.doesB reg wl n).length then corrupt (ds[fi ds ad]!.x.doesB reg wl n) f else ds[fi ds ad]!.x.doesB reg wl n), ds.set (fi ds ad) { ds[fi ds ad]! with x := ds[fi ds ad]!.x.doesD reg wl n })
theorem BusS.cnt {w : World} {lo hi r : Nat} {ds : List Bd} {F : List Fl} {cnt : Int} (h : BusS w lo hi r ds F cnt) (c : Int) : BusS (w.setCell ⟨r, 2, none⟩ (.int .i64 c)) lo hi r ds F c ∧ Fr (Rg lo hi) w (w.setCell ⟨r, 2, none⟩ (.int .i64 c)) := by
  have hf : Fr (fun k => k = r) w (w.setCell ⟨r, 2, none⟩ (.int .i64 c)) := Fr.put1 _ _ rfl
  obtain ⟨rv, fm, h1, h2, h3, es, ck, h4, h5⟩ := h.head
  have hne : ∀ k (o : Obj), w.heap[k]? = some o → (∀ cs, o ≠ .cells cs 75 (0, 0)) → k ≠ r := fun k o ho hn e => hn _ (Option.some.inj (ho.symm.trans (e ▸ h1)))
  refine ⟨⟨⟨rv, fm, put_at h1 2 _, h2.keep fun b cs hb hc => hf.blk hc (hne b _ hc (by intro c e; injection e with _ e; exact absurd e (by decide))), h3, es, ck, hf.blk h4 (hne fm _ h4 (by intro c e; cases e)), h5⟩, h.rr, Nat.le_trans h.top hf.size, fun j hj => ?_, h.apart, h.few⟩, hf.mono fun k e => e ▸ h.rr⟩
  obtain ⟨k1, k2, k3, k4⟩ := h.dev j hj
  have hd : ¬ ds[j]!.p.d = r := hne _ _ k1.head (by intro c e; injection e with _ e; exact absurd e (by decide))
  obtain ⟨_, _, _, q1⟩ := ring_head k1.ring
  obtain ⟨_, q2⟩ := ring_row k1.ring
  obtain ⟨_, _, _, _, _, _, q3⟩ := ring_chan k1.ring
  refine ⟨k1.keep hf hd (hne _ _ q1 (by intro c e; injection e with _ e; exact absurd e (by decide))) (hne _ _ q2 (by intro c e; injection e with _ e; exact absurd e (by decide))) (hne _ _ q3 (by intro c e; cases e)) (fun m hm => ?_), k2, k3, k4⟩
  rcases k1.list with ⟨_, e⟩ | ⟨m', cap, cs, e, _, e2, _⟩
  · rw [e] at hm
    simp [Value.ownBlock] at hm
  · rw [e] at hm
    simp only [Value.ownBlock, Option.some.injEq] at hm
    exact hne m _ (hm ▸ e2) (by intro c e; injection e with _ e; exact absurd e (by decide))
theorem ByteRow.slice {w : World} {b : Nat} {v : Value} {bs : List Int} (h : ByteRow w b v bs) : ∃ A c, v = .slice A bs.length c := by
  rcases h with ⟨h1, rfl⟩ | ⟨g, cap, cs, h1, h2, h3⟩
  · exact ⟨none, 0, h1⟩
  · exact ⟨_, cap, h1⟩
theorem ByteRow.cells {w : World} {b : Nat} {A : Option Addr} {n c : Nat} {bs : List Int} (h : ByteRow w b (.slice A n c) bs) (hn : 0 < bs.length) : ∃ g cs, A = some ⟨g, 0, none⟩ ∧ b ≤ g ∧ w.heap[g]? = some (.cells cs 5 (0, 0)) ∧ ∀ j, j < bs.length → cs[j]? = some (.int .u8 bs[j]!) := by
  rcases h with ⟨h1, rfl⟩ | ⟨g, cap, cs, h1, h2, h3, h4, h5⟩
  · exact absurd hn (Nat.not_lt_zero 0)
  · simp only [Value.slice.injEq] at h1
    exact ⟨g, cs, h1.1, h2, h3, h5⟩
theorem ByteRow.ans {w : World} {b x t : Nat} {v : Value} {bs : List Int} {v0 v1 : Value} (h : ByteRow w b v bs) (hx : w.heap[x]? = some (.cells #[v0, v1] t (0, 0))) (u0 u1 : Value) (ht : t ≠ 5 := by decide) : ByteRow ((w.setCell ⟨x, 0, none⟩ u0).setCell ⟨x, 1, none⟩ u1) b v bs := by
  rcases h with h | ⟨g, cap, cs, h1, h2, h3, h4, h5⟩
  · exact .inl h
  · refine .inr ⟨g, cap, cs, h1, h2, ?_, h4, h5⟩
    have hne : g ≠ x := by
      rintro rfl
      rw [hx] at h3
      injection h3 with h3
      injection h3 with _ h3
      exact ht h3
    rw [Below.heap_setCell _ _ _ _ (by exact hne), Below.heap_setCell _ _ _ _ (by exact hne)]
    exact h3
theorem BusS.ans {w : World} {lo hi r : Nat} {ds : List Bd} {F : List Fl} {cnt : Int} (h : BusS w lo hi r ds F cnt) {x t : Nat} {v0 v1 : Value} (hx : w.heap[x]? = some (.cells #[v0, v1] t (0, 0))) (u0 u1 : Value) (hn : ¬ Rg lo hi x) : BusS ((w.setCell ⟨x, 0, none⟩ u0).setCell ⟨x, 1, none⟩ u1) lo hi r ds F cnt :=
  h.keep (S := fun k => k = x) ((Fr.put1 (S := fun k => k = x) ⟨x, 0, none⟩ u0 rfl).put ⟨x, 1, none⟩ u1 rfl) (fun k hk e => hn (e ▸ hk))
theorem doesB_len (x : Dv) (reg : Int) (wl : List Int) (n : Nat) (hn : n ≤ 128) : (x.doesB reg wl n).length ≤ 128 := by
  unfold Dv.doesB
  split
  · exact Nat.zero_le _
  split
  · rw [List.length_take]
    omega
  · unfold Dv.reads
    rw [List.length_map, List.length_range]
    exact hn
theorem corrupt_len (b : List Int) (f : Fl) : (corrupt b f).length = b.length := by unfold corrupt; rw [List.length_set]
/-- A byte of a row is turned. -/
theorem ByteRow.corrupt {w : World} {b g n c : Nat} {bs : List Int} {f : Fl} (h : ByteRow w b (.slice (some ⟨g, 0, none⟩) n c) bs) (hn : 0 < bs.length) : ByteRow (w.setCell ⟨g, f.idx.toNat % bs.length, none⟩ (.int .u8 (Go.bits .xor .u8 (bs[f.idx.toNat % bs.length]!) f.xor))) b (.slice (some ⟨g, 0, none⟩) n c) (corrupt bs f) := by
  rcases h with ⟨h1, rfl⟩ | ⟨g', cap, cs, h1, h2, h3, h4, h5⟩
  · exact absurd hn (Nat.not_lt_zero 0)
  · simp only [Value.slice.injEq, Option.some.injEq, Addr.mk.injEq] at h1
    obtain ⟨⟨rfl, -⟩, e2, rfl⟩ := h1
    refine .inr ⟨g, c, _, by rw [corrupt_len, e2], h2, put_at h3 _ _, by rw [corrupt_len]; exact h4, fun j hj => ?_⟩
    rw [corrupt_len] at hj
    have hm : f.idx.toNat % bs.length < bs.length := Nat.mod_lt _ hn
    unfold Bs.corrupt
    rw [getElem!_pos _ j (by rw [List.length_set]; exact hj), List.getElem_set]
    by_cases he : f.idx.toNat % bs.length = j
    · subst he
      rw [if_pos rfl]
      have h6 := h5 _ hm
      have h7 := (Array.getElem?_eq_some_iff.1 h6).1
      rw [Array.getElem?_setIfInBounds_self_of_lt h7]
    · rw [if_neg he, Array.getElem?_setIfInBounds_ne he, h5 j hj, getElem!_pos bs j hj]
theorem Dv.Ok.power {x : Dv} (h : x.Ok) (on : Bool) : (x.power on).Ok := by
  obtain ⟨h1, h2, h3, h4, h5, h6⟩ := h
  unfold Dv.power
  split
  · split
    · exact ⟨h1, h2, h3, h4, h5, h6⟩
    · exact ⟨by show (0 : Int) ≤ 0; omega, by show (0 : Int) ≤ 256; omega, h3, h4, h5, h6⟩
  · exact ⟨h1, h2, h3, h4, h5, h6⟩
theorem Dv.Ok.write {x : Dv} (h : x.Ok) (reg b : Int) (hb0 : 0 ≤ b) (hb1 : b < 256) : (x.write reg b).Ok := by
  unfold Dv.write
  split
  · exact h.power _
  split
  · obtain ⟨h1, h2, h3, h4, h5, h6⟩ := h
    refine ⟨h1, h2, ?_, ?_, h5, h6⟩
    · show 0 ≤ (if b = 0 then 256 else b)
      split <;> omega
    · show (if b = 0 then 256 else b) ≤ 256
      split <;> omega
  split
  · obtain ⟨h1, h2, h3, h4, h5, h6⟩ := h.power false
    exact ⟨h1, h2, by show (0 : Int) ≤ 1; omega, by show (1 : Int) ≤ 256; omega, h5, h6⟩
  · exact h
theorem Dv.Ok.wr {x : Dv} (h : x.Ok) (reg : Int) (wl : List Int) (hb : ∀ i : Nat, i < wl.length → 0 ≤ rd wl i ∧ rd wl i < 256) : ∀ i, i ≤ wl.length → (x.wr reg wl i).Ok
  | 0, _ => h
  | i + 1, hi => (h.wr reg wl hb i (by omega)).write _ _ (hb i (by omega)).1 (hb i (by omega)).2
theorem Dv.Ok.doesD {x : Dv} (h : x.Ok) {reg : Int} {wl : List Int} {n : Nat} (hb : ∀ i : Nat, i < wl.length → 0 ≤ rd wl i ∧ rd wl i < 256) : (x.doesD reg wl n).Ok := by
  unfold Dv.doesD
  split
  · exact h.wr reg wl hb _ (Nat.le_refl _)
  split
  · exact ⟨h.c0, h.c1, h.p0, h.p1, h.len, h.next⟩
  · exact h
set_option maxHeartbeats 16000000 in
set_option maxRecDepth 100000 in
theorem do_ (w : World) (lo hi r : Nat) (ds : List Bd) (F : List Fl) (cnt : Int) (h : BusS w lo hi r ds F cnt) (hc0 : 0 ≤ cnt) (hc1 : cnt < 4611686018427387904) (ad reg : Int) (A : Option Addr) (c : Nat) (wl : List Int) (n : Nat) (hg : GoodTx ad reg wl n) (hby : ∀ i : Nat, i < wl.length → 0 ≤ rd wl i ∧ rd wl i < 256) (hcap : wl.length ≤ c) (hC : ∀ W, Fr (Rg lo hi) w W → Kd.C (Kd.int .u8) W A wl.length wl) (hf0 : 0 ≤ (faultAt F (cnt + 1)).idx) (hf1 : (faultAt F (cnt + 1)).idx < 9223372036854775808) : Calls Try.prog 12 #[.pointer (some ⟨r, 0, none⟩), .agg #[.int .i64 ad, .int .i64 reg, .slice A wl.length c, .int .i64 (n : Int)]] w fun e w' => ∃ v, e = .returned (.tuple #[.agg #[.int .i64 (doR ds (faultAt F (cnt + 1)) ad reg wl n).1, v], .int .i64 0]) ∧ ByteRow w' w.heap.size v (doR ds (faultAt F (cnt + 1)) ad reg wl n).2.1 ∧ BusS w' lo hi r (doR ds (faultAt F (cnt + 1)) ad reg wl n).2.2 F (cnt + 1) ∧ Fr (Rg lo hi) w w' := by
  have H := Aside0.mk h
  have HC := Aside0.mk hC
  have HG := Aside0.mk hg
  have HBY := Aside0.mk hby
  have hwc : IntKind.i64.wrap (cnt + 1) = cnt + 1 := by rw [IntKind.wrap_i64]; omega
  have hwc2 : wrap64 (cnt + 1) = cnt + 1 := by unfold wrap64; omega
  obtain ⟨f, hf⟩ : ∃ f, f = faultAt F (cnt + 1) := ⟨_, rfl⟩
  rw [← hf] at hf0 hf1 ⊢
  have HFA := Aside0.mk hf
  clear h hC hg hby hf
  go_enter Try.func12, Try.ntmps12
  go_upto_region 1 with fail
  obtain ⟨w1, hw1⟩ : ∃ w1, w1 = ((w.alloc (.cells #[.int .i64 ad, .int .i64 reg, .slice A wl.length c, .int .i64 (n : Int)] 39)).alloc (.cells #[.int .i64 0, .slice none 0 0] 43)) := ⟨_, rfl⟩
  rw [← hw1]
  have hb1 : Below w.heap.size w w1 := hw1 ▸ below_alloc (below_alloc (Below.refl _ _) _) _
  have hx0 : w1.heap[w.heap.size]? = some (.cells #[.int .i64 ad, .int .i64 reg, .slice A wl.length c, .int .i64 (n : Int)] 39 (0, 0)) := by rw [hw1]; exact (two w _ _).1
  have hx1 : w1.heap[w.heap.size + 1]? = some (.cells #[.int .i64 0, .slice none 0 0] 43 (0, 0)) := by rw [hw1]; exact (two w _ _).2
  obtain ⟨x1, he1⟩ : ∃ x1, x1 = w.heap.size + 1 := ⟨_, rfl⟩
  obtain ⟨x0, he0⟩ : ∃ x0, x0 = w.heap.size := ⟨_, rfl⟩
  rw [← he1] at hx1 ⊢
  rw [← he0] at hx0 ⊢
  have HE := Aside0.mk (And.intro he0 he1)
  have HF1 := Aside0.mk (show Fr (Rg lo hi) w w1 from Fr.of_below hb1)
  have HX0 := Aside0.mk hx0
  have HX1 := Aside0.mk hx1
  have HS1 := Aside0.mk (H.out.below hb1)
  have htop := H.out.top
  obtain ⟨y0, y1, y2, y3⟩ := box4 hx0
  have HGO := Aside0.mk (bus_Good.calls 1 ad reg A c wl (n : Int) true w1 (HC.out w1 HF1.out) hcap (good_f HG.out))
  clear hb1 hx0 hx1 he0 he1 hw1 H
  go_upto_region 3 with (go_at_call 33; with_reducible refine HGO.out.mono ?_; rintro e w2 ⟨rfl, hb2⟩; have HB2 := Aside0.mk hb2; clear hb2)
  have hs2 := HS1.out.below HB2.out
  have h2x := fun k (o : Obj) (hk : w1.heap[k]? = some o) => (HB2.out.block k (Array.getElem?_eq_some_iff.1 hk).1).trans hk
  have hx02 := h2x _ _ HX0.out
  have hx12 := h2x _ _ HX1.out
  have hf2 : Fr (Rg lo hi) w w2 := HF1.out.step HB2.out
  obtain ⟨rv, fm, g1, g2, g3, es, ck, g4, g5⟩ := hs2.head
  have c2 : w2.cell? ⟨r, 2, none⟩ = some (.int .i64 cnt) := (blk_cell g1 2).trans rfl
  have fz2 := row_frozen g1 2
  have HS2 := Aside0.mk hs2
  have HX02 := Aside0.mk hx02
  have HX12 := Aside0.mk hx12
  have HF2 := Aside0.mk hf2
  clear hs2 h2x hx02 hx12 hf2 g1 g2 g3 g4 g5 y0 y1 y2 y3 HX0 HX1 HF1 HB2 HGO
  go_upto_region 4 with fail
  obtain ⟨w3, hw3⟩ : ∃ w3, w3 = w2.setCell ⟨r, 2, none⟩ (.int .i64 (cnt + 1)) := ⟨_, rfl⟩
  rw [← hw3]
  have hs3 : BusS w3 lo hi r ds F (cnt + 1) := hw3 ▸ (HS2.out.cnt (cnt + 1)).1
  have hf3 : Fr (Rg lo hi) w2 w3 := hw3 ▸ (HS2.out.cnt (cnt + 1)).2
  have hn0 : ¬ Rg lo hi x0 := fun e => by have := HE.out; have := e.2; omega
  have hn1 : ¬ Rg lo hi x1 := fun e => by have := HE.out; have := e.2; omega
  have hx03 := hf3.blk HX02.out hn0
  have hx13 := hf3.blk HX12.out hn1
  have HF3 := Aside0.mk (HF2.out.trans hf3)
  clear fz2 c2 hw3 hf3 HX02 HX12 HF2 HS2 hn0 hn1
  obtain ⟨rv, fm, g1, g2, g3, es, ck, g4, g5⟩ := hs3.head
  have c2 : w3.cell? ⟨r, 2, none⟩ = some (.int .i64 (cnt + 1)) := (blk_cell g1 2).trans rfl
  have c1 : w3.cell? ⟨r, 1, none⟩ = some (.map (some fm)) := (blk_cell g1 1).trans rfl
  have hlk : (Instr.lookup 72 (.map (some fm)) (.int .i64 (cnt + 1)) false).run Try.prog w3 = .ok (.agg #[.int .i64 f.at_, .int .i64 f.kind, .int .i64 f.idx, .int .u8 f.xor]) w3 := by rw [HFA.out]; exact lookup_ w3 fm ck es F g4 g5 (cnt + 1)
  have HLK := Aside0.mk (show ∀ W, W.heap[fm]? = some (.map es ck) → (Instr.lookup 72 (.map (some fm)) (.int .i64 (cnt + 1)) false).run Try.prog W = .ok (.agg #[.int .i64 f.at_, .int .i64 f.kind, .int .i64 f.idx, .int .u8 f.xor]) W from fun W hW => by rw [HFA.out]; exact lookup_ W fm ck es F hW g5 (cnt + 1))
  have HS3 := Aside0.mk hs3
  have HX0 := Aside0.mk hx03
  have HX1 := Aside0.mk hx13
  clear hs3 hx03 hx13 g1 g2 g3 g5
  refine start_ (n := 11) (S := fun w' => w'.cell? ⟨r, 1, none⟩ = some (.map (some fm)) ∧ w'.cell? ⟨r, 2, none⟩ = some (.int .i64 (cnt + 1)) ∧ (Instr.lookup 72 (.map (some fm)) (.int .i64 (cnt + 1)) false).run Try.prog w' = .ok (.agg #[.int .i64 f.at_, .int .i64 f.kind, .int .i64 f.idx, .int .u8 f.xor]) w') (ds := [10]) #[false, false, false, false, false, false, false, false, false, false, false] (by kernel_rfl) rfl rfl ⟨c1, c2, HLK.out w3.drew g4⟩ (fun hHeld => ?_)
  refine pure_ (i := 0) (N := some 20) (v := ?_) (a' := ?_) #[true, false, false, false, false, false, false, false, false, false, false] rfl rfl (by kernel_rfl) (fun _ _ _ h => h) (Or.inl ⟨by rfl, ?_⟩) ?_ ?_
  rotate_left
  · intro w'
    go_simp
    with_reducible rfl
  rotate_left
  · simp only [Act.put, List.setIfInBounds_toArray, List.set_cons_zero, List.set_cons_succ, i64_w, i32_w]
    rfl
  refine pure_ (i := 1) (N := some 21) (v := ?_) (a' := ?_) #[true, true, false, false, false, false, false, false, false, false, false] rfl rfl (by kernel_rfl) (fun _ _ _ h => h) (Or.inl ⟨by rfl, ?_⟩) ?_ ?_
  rotate_left
  · intro w'
    go_simp
    with_reducible rfl
  rotate_left
  · simp only [Act.put, List.setIfInBounds_toArray, List.set_cons_zero, List.set_cons_succ, i64_w, i32_w]
    rfl
  refine pure_ (i := 2) (N := some 22) (v := ?_) (a' := ?_) #[true, true, true, false, false, false, false, false, false, false, false] rfl rfl (by kernel_rfl) (fun _ _ _ h => h) (Or.inl ⟨by rfl, ?_⟩) ?_ ?_
  rotate_left
  · intro w'
    go_simp
    with_reducible rfl
  rotate_left
  · simp only [Act.put, List.setIfInBounds_toArray, List.set_cons_zero, List.set_cons_succ, i64_w, i32_w]
    rfl
  refine pure_ (i := 4) (N := some 24) (v := ?_) (a' := ?_) #[true, true, true, false, true, false, false, false, false, false, false] rfl rfl (by kernel_rfl) (fun _ _ _ h => h) (Or.inl ⟨by rfl, ?_⟩) ?_ ?_
  rotate_left
  · intro w'
    go_simp
    with_reducible rfl
  rotate_left
  · simp only [Act.put, List.setIfInBounds_toArray, List.set_cons_zero, List.set_cons_succ, i64_w, i32_w]
    rfl
  refine pure_ (i := 5) (N := some 25) (v := ?_) (a' := ?_) #[true, true, true, false, true, true, false, false, false, false, false] rfl rfl (by kernel_rfl) (fun _ _ _ h => h) (Or.inl ⟨by rfl, ?_⟩) ?_ ?_
  rotate_left
  · intro w'
    go_simp
    with_reducible rfl
  rotate_left
  · simp only [Act.put, List.setIfInBounds_toArray, List.set_cons_zero, List.set_cons_succ, i64_w, i32_w]
    rfl
  refine pure_ (i := 6) (N := some 26) (v := ?_) (a' := ?_) #[true, true, true, false, true, true, true, false, false, false, false] rfl rfl (by kernel_rfl) (fun _ _ _ h => h) (Or.inl ⟨by rfl, ?_⟩) ?_ ?_
  rotate_left
  · intro w'
    go_simp
    with_reducible rfl
  rotate_left
  · simp only [Act.put, List.setIfInBounds_toArray, List.set_cons_zero, List.set_cons_succ, i64_w, i32_w]
    rfl
  refine take_ (i := 3) (N := some 23) (v := ?_) (a' := ?_) #[true, true, true, true, true, true, true, false, false, false, false] rfl rfl (by kernel_rfl) (fun _ _ _ h => h) (Or.inl ⟨by rfl, ?_⟩) hHeld ?_ ?_
  rotate_left
  · rintro w' ⟨s0, s1, s2⟩
    go_simp
    with_reducible rfl
  rotate_left
  · simp only [Act.put, List.setIfInBounds_toArray, List.set_cons_zero, List.set_cons_succ, i64_w, i32_w]
    rfl
  refine take_ (i := 7) (N := some 27) (v := ?_) (a' := ?_) #[true, true, true, true, true, true, true, true, false, false, false] rfl rfl (by kernel_rfl) (fun _ _ _ h => h) (Or.inl ⟨by rfl, ?_⟩) hHeld ?_ ?_
  rotate_left
  · rintro w' ⟨s0, s1, s2⟩
    go_simp
    with_reducible rfl
  rotate_left
  · simp only [Act.put, List.setIfInBounds_toArray, List.set_cons_zero, List.set_cons_succ, i64_w, i32_w]
    rfl
  refine take_ (i := 8) (N := some 28) (v := ?_) (a' := ?_) #[true, true, true, true, true, true, true, true, true, false, false] rfl rfl (by kernel_rfl) (fun _ _ _ h => h) (Or.inl ⟨by rfl, ?_⟩) hHeld ?_ ?_
  rotate_left
  · rintro w' ⟨s0, s1, s2⟩
    go_simp
    with_reducible rfl
  rotate_left
  · simp only [Act.put, List.setIfInBounds_toArray, List.set_cons_zero, List.set_cons_succ, i64_w, i32_w]
    rfl
  refine one_ (i := 9) (N := some 6) #[true, true, true, true, true, true, true, true, true, true, false] rfl rfl (by kernel_rfl) (by decide) (fun K hK => ?_)
  refine value_ (w1 := ?_) (v := ?_) (by rfl) rfl ?_ ?_
  rotate_left 2
  · go_simp
    constructor
    · rfl
    · rfl
  refine hK.out _ _ ⟨(World.cell?_alloc_lt _ _ _ (World.block_lt_of_cell? _ _ hHeld.1)).trans hHeld.1, (World.cell?_alloc_lt _ _ _ (World.block_lt_of_cell? _ _ hHeld.2.1)).trans hHeld.2.1, HLK.out _ (((below_alloc (Below.refl w3.heap.size _) _).block fm (Array.getElem?_eq_some_iff.1 g4).1).trans g4)⟩ (fun hHeld => ?_)
  clear hK K
  refine norm_ (a' := ?_) ?_ ?_
  rotate_left
  · show Act.put _ (some 6) _ = _
    simp only [Act.put, List.setIfInBounds_toArray, List.set_cons_zero, List.set_cons_succ, i64_w, i32_w]
    rfl
  refine last_ (i := 10) (N := none) #[true, true, true, true, true, true, true, true, true, true, true] rfl rfl (by kernel_rfl) (by decide) (fun K hK => ?_)
  refine skip_ (w1 := ?_) (by rfl) rfl ?_ ?_
  rotate_left
  · go_simp
    rfl
  refine hK.out _ _ ?_
  clear hK K
  refine done_ (by kernel_rfl) ?_

  obtain ⟨w4, hw4⟩ : ∃ w4, w4 = (w3.alloc (.cells #[.int .i64 f.at_, .int .i64 f.kind, .int .i64 f.idx, .int .u8 f.xor] 54)).drew := ⟨_, rfl⟩
  obtain ⟨x2, hx2e⟩ : ∃ x2, x2 = w3.heap.size := ⟨_, rfl⟩
  rw [← hx2e]
  first | rw [← hw4] | (rw [show ((w3.drew).alloc (.cells #[.int .i64 f.at_, .int .i64 f.kind, .int .i64 f.idx, .int .u8 f.xor] 54)) = w4 from hw4.symm])
  have hb4 : Below w3.heap.size w3 w4 := by rw [hw4]; exact ⟨rfl, rfl, rfl, (below_alloc (Below.refl w3.heap.size w3) _).size, (below_alloc (Below.refl w3.heap.size w3) _).block⟩
  have hx24 : w4.heap[x2]? = some (.cells #[.int .i64 f.at_, .int .i64 f.kind, .int .i64 f.idx, .int .u8 f.xor] 54 (0, 0)) := by rw [hw4, hx2e]; exact blk_new w3 _
  have h4x := fun k (o : Obj) (hk : w3.heap[k]? = some o) => (hb4.block k (Array.getElem?_eq_some_iff.1 hk).1).trans hk
  have hx04 := h4x _ _ HX0.out
  have hx14 := h4x _ _ HX1.out
  have hs4 := HS3.out.below hb4
  have hf4 : Fr (Rg lo hi) w w4 := HF3.out.step hb4
  have hx2w : w.heap.size ≤ x2 := by rw [hx2e]; exact HF3.out.size
  clear c1 c2 hlk HLK g4 hHeld hw4 hx2e hb4 h4x HX0 HX1 HS3 HF3
  have HS4 := Aside0.mk hs4
  have HX0 := Aside0.mk hx04
  have HX1 := Aside0.mk hx14
  have HX2 := Aside0.mk hx24
  have HF4 := Aside0.mk hf4
  have HX2W := Aside0.mk hx2w
  obtain ⟨y0, y1, y2, y3⟩ := box4 hx04
  obtain ⟨k0, k1, k2, k3⟩ := box4 hx24
  have a0 : w4.cell? ⟨x1, 0, none⟩ = some (.int .i64 0) := (blk_cell hx14 0).trans rfl
  have a1 : w4.cell? ⟨x1, 1, none⟩ = some (.slice none 0 0) := (blk_cell hx14 1).trans rfl
  have l0 := row_frozen hx14 0
  have l1 := row_frozen hx14 1
  have HFI := Aside0.mk (find_ w4 lo hi r ds F (cnt + 1) hs4 ad)
  clear hs4 hx04 hx14 hx24 hf4 hx2w
  have HNR := Aside0.mk (show ∀ k, k = w.heap.size + 1 → ¬ Rg lo hi k from fun k e q => by have := q.2; omega)
  have HNX := Aside0.mk (show ∀ k, w.heap.size ≤ k → ¬ Rg lo hi k from fun k e q => by have := q.2; omega)
  clear htop
  by_cases hfd : fi ds ad < ds.length
  · have hp : ptrAt ds (fi ds ad) = .pointer (some ⟨ds[fi ds ad]!.p.d, 0, none⟩) := by unfold ptrAt; rw [if_pos hfd]
    rw [hp] at HFI
    clear hp
    by_cases hk1 : f.kind = 1
    · have hkd : (f.kind == 1) = true := by rw [hk1]; rfl
      have HR := Aside0.mk (show doR ds f ad reg wl n = (2, [], ds) from by unfold doR; rw [if_pos (.inl hk1)])
      clear hk1 HC HG HBY HFA hfd
      go_upto_region 6 with (go_at_call 31; with_reducible refine HFI.out.mono ?_; rintro e w' ⟨rfl, hw'⟩; subst hw')
      go_wp2
      refine bodyPost_ret (v := .tuple #[.agg #[.int .i64 2, (.slice none 0 0)], .int .i64 0]) ?_ rfl ?_
      · exact results_ct (fn := Try.f12) (p := 4) (u := 5) (ty := 43) rfl _ _ x1 43 #[.int .i64 2, (.slice none 0 0)] (0, 0) _ rfl (put_at (put_at HX1.out 0 _) 1 _) Try.underlying43 rfl (by kernel_rfl)
      · refine ⟨_, by rw [HR.out], ?_, ?_, ?_⟩
        · rw [HR.out]
          exact .inl ⟨rfl, rfl⟩
        · rw [HR.out]
          exact (HS4.out).ans HX1.out _ _ (HNR.out _ HE.out.2)
        · exact ((HF4.out).putN ⟨x1, 0, none⟩ _ (by show w.heap.size ≤ x1; have := HE.out; omega)).putN ⟨x1, 1, none⟩ _ (by show w.heap.size ≤ x1; have := HE.out; omega)
    · have hkd : (f.kind == 1) = false := beq_eq_false_iff_ne.mpr hk1
      obtain ⟨d1, d2, d3, d4⟩ := HS4.out.dev _ hfd
      have HOK := Aside0.mk (d2.doesD (reg := reg) (wl := wl) (n := n) HBY.out)
      have hnot : ∀ k, w.heap.size ≤ k → ¬ FS ds[fi ds ad]!.p k := fun k hk q => HNX.out k hk (d3 k q)
      have HDO := Aside0.mk (does_ w4 ds[fi ds ad]!.p ds[fi ds ad]!.lv ds[fi ds ad]!.x d1 ad reg A c wl n HG.out.r0 HG.out.r1 HG.out.w8 HBY.out HG.out.rd HG.out.n1 (fun W hW => HC.out W (HF4.out.trans (hW.mono d3))))
      have HD3 := Aside0.mk d3
      have HNO := Aside0.mk hnot
      have HGN := Aside0.mk HG.out.n1
      have HR := Aside0.mk (show doR ds f ad reg wl n = (if f.kind = 2 then (3, [], ds.set (fi ds ad) { ds[fi ds ad]! with x := ds[fi ds ad]!.x.doesD reg wl n }) else (1, (if f.kind = 3 ∧ 0 < (ds[fi ds ad]!.x.doesB reg wl n).length then corrupt (ds[fi ds ad]!.x.doesB reg wl n) f else ds[fi ds ad]!.x.doesB reg wl n), ds.set (fi ds ad) { ds[fi ds ad]! with x := ds[fi ds ad]!.x.doesD reg wl n })) from by unfold doR; rw [if_neg (by rintro (q | q); exact hk1 q; exact q hfd)])
      have HHF := Aside0.mk hfd
      clear d1 d2 d3 d4 hnot HC HG HBY HFA hk1 hfd
      obtain ⟨i, hi⟩ : ∃ i, i = fi ds ad := ⟨_, rfl⟩
      rw [← hi] at HFI HDO HD3 HNO HR HHF HOK
      clear hi
      obtain ⟨dd, hdd⟩ : ∃ dd, dd = ds[i]!.p.d := ⟨_, rfl⟩
      rw [← hdd] at HFI HDO
      clear hdd
      go_upto_region 9 with (first | (go_at_call 31; with_reducible refine HFI.out.mono ?_; rintro e w' ⟨rfl, hw'⟩; subst hw') | (go_at_call 34; with_reducible refine HDO.out.mono ?_; rintro e w5 ⟨v5, rfl, hb5, hd5, hf5⟩; have HB5 := Aside0.mk hb5; have HD5 := Aside0.mk hd5; have HF5 := Aside0.mk hf5; clear hb5 hd5 hf5))
      obtain ⟨A5, c5, hv5⟩ := HB5.out.slice
      subst hv5
      have hs5 := HS4.out.one i HHF.out HF5.out _ HD5.out HOK.out
      have HFW := Aside0.mk (HF4.out.trans hs5.2)
      have hx15 := HF5.out.blk HX1.out (HNO.out x1 (by have := HE.out; omega))
      have hx25 := HF5.out.blk HX2.out (HNO.out x2 HX2W.out)
      have HS5 := Aside0.mk hs5.1
      clear hs5 y0 y1 y2 y3 k0 k1 k2 k3 a0 a1 l0 l1 HX0 HX1 HX2 HD5 HFI HDO HOK HNO HD3
      obtain ⟨bs, hbs⟩ : ∃ bs, bs = ds[i]!.x.doesB reg wl n := ⟨_, rfl⟩
      have hblm : bs.length ≤ 128 := by rw [hbs]; exact doesB_len _ _ _ _ HGN.out
      rw [← hbs] at HB5 HR ⊢
      clear hbs
      obtain ⟨k0, k1, k2, k3⟩ := box4 hx25
      have a0 : w5.cell? ⟨x1, 0, none⟩ = some (.int .i64 0) := (blk_cell hx15 0).trans rfl
      have a1 : w5.cell? ⟨x1, 1, none⟩ = some (.slice none 0 0) := (blk_cell hx15 1).trans rfl
      have l0 := row_frozen hx15 0
      have l1 := row_frozen hx15 1
      have HX1 := Aside0.mk hx15
      clear hx15 hx25
      by_cases hk2 : f.kind = 2
      · have hkd2 : (f.kind == 2) = true := by rw [hk2]; rfl
        rw [if_pos hk2] at HR
        clear hk2
        go_wp2
        refine bodyPost_ret (v := .tuple #[.agg #[.int .i64 3, (.slice none 0 0)], .int .i64 0]) ?_ rfl ?_
        · exact results_ct (fn := Try.f12) (p := 4) (u := 5) (ty := 43) rfl _ _ x1 43 #[.int .i64 3, (.slice none 0 0)] (0, 0) _ rfl (put_at (put_at HX1.out 0 _) 1 _) Try.underlying43 rfl (by kernel_rfl)
        · refine ⟨_, by rw [HR.out], ?_, ?_, ?_⟩
          · rw [HR.out]
            exact .inl ⟨rfl, rfl⟩
          · rw [HR.out]
            exact (HS5.out).ans HX1.out _ _ (HNR.out _ HE.out.2)
          · exact ((HFW.out).putN ⟨x1, 0, none⟩ _ (by show w.heap.size ≤ x1; have := HE.out; omega)).putN ⟨x1, 1, none⟩ _ (by show w.heap.size ≤ x1; have := HE.out; omega)
      · have hkd2 : (f.kind == 2) = false := beq_eq_false_iff_ne.mpr hk2
        rw [if_neg hk2] at HR
        clear hk2
        have HBW := Aside0.mk (HB5.out.base HF4.out.size)
        by_cases hk3 : f.kind = 3 ∧ 0 < bs.length
        · obtain ⟨hk3a, hk3b⟩ := hk3
          have hkd3 : (f.kind == 3) = true := by rw [hk3a]; rfl
          have hbl : decide ((bs.length : Int) > 0) = true := decide_eq_true (by omega)
          rw [if_pos ⟨hk3a, hk3b⟩] at HR
          obtain ⟨g, cs, rfl, hgb, hg5, hcs⟩ := HB5.out.cells hk3b
          obtain ⟨m, hm⟩ : ∃ m, m = f.idx.toNat % bs.length := ⟨_, rfl⟩
          have hml : m < bs.length := by rw [hm]; exact Nat.mod_lt _ hk3b
          have hmt : Int.tmod f.idx (bs.length : Int) = (m : Int) := by
            rw [Int.tmod_eq_emod_of_nonneg hf0, hm, Int.natCast_emod, Int.toNat_of_nonneg hf0]
          have hmw : IntKind.i64.wrap (Int.tmod f.idx (bs.length : Int)) = (m : Int) := by rw [hmt, IntKind.wrap_i64]; omega
          have hmw2 : wrap64 (Int.tmod f.idx (bs.length : Int)) = (m : Int) := by rw [hmt]; unfold wrap64; omega
          have hcell : w5.cell? ⟨g, m, none⟩ = some (.int .u8 bs[m]!) := (blk_cell hg5 m).trans (hcs m hml)
          obtain ⟨bm, hbm⟩ : ∃ bm, bm = bs[m]! := ⟨_, rfl⟩
          rw [← hbm] at hcell
          have hfz := row_frozen hg5 m
          have hbne : ((bs.length : Nat) : Int) ≠ 0 := by omega
          have hmi : (m : Int) < (bs.length : Int) := by omega
          have HM := Aside0.mk (And.intro hm hbm)
          have HG5 := Aside0.mk hg5
          have HHB := Aside0.mk hk3b
          have HK3 := Aside0.mk hk3a
          have hbs0 : ¬ bs = [] := fun e => by rw [e] at hk3b; exact absurd hk3b (Nat.not_lt_zero 0)
          clear hm hbm hg5 hcs hk3a hk3b
          go_upto_region 12 with fail
          refine start_ (n := 13) (S := fun w' => w'.cell? ⟨x2, 2, none⟩ = some (.int .i64 f.idx) ∧ w'.cell? ⟨x2, 3, none⟩ = some (.int .u8 f.xor) ∧ w'.cell? ⟨g, m, none⟩ = some (.int .u8 bm)) (ds := [12]) #[false, false, false, false, false, false, false, false, false, false, false, false, false] (by kernel_rfl) rfl rfl ⟨k2, k3, hcell⟩ (fun hHeld => ?_)
          refine pure_ (i := 0) (N := some 56) (v := ?_) (a' := ?_) #[true, false, false, false, false, false, false, false, false, false, false, false, false] rfl rfl (by kernel_rfl) (fun _ _ _ h => h) (Or.inl ⟨by rfl, ?_⟩) ?_ ?_
          rotate_left
          · intro w'
            go_simp
            with_reducible rfl
          rotate_left
          · simp only [Act.put, List.setIfInBounds_toArray, List.set_cons_zero, List.set_cons_succ, i64_w, i32_w]
            rfl
          refine pure_ (i := 1) (N := some 57) (v := ?_) (a' := ?_) #[true, true, false, false, false, false, false, false, false, false, false, false, false] rfl rfl (by kernel_rfl) (fun _ _ _ h => h) (Or.inl ⟨by rfl, ?_⟩) ?_ ?_
          rotate_left
          · intro w'
            go_simp
            with_reducible rfl
          rotate_left
          · simp only [Act.put, List.setIfInBounds_toArray, List.set_cons_zero, List.set_cons_succ, i64_w, i32_w]
            rfl
          refine pure_ (i := 3) (N := some 59) (v := ?_) (a' := ?_) #[true, true, false, true, false, false, false, false, false, false, false, false, false] rfl rfl (by kernel_rfl) (fun _ _ _ h => h) (Or.inl ⟨by rfl, ?_⟩) ?_ ?_
          rotate_left
          · intro w'
            go_simp
            with_reducible rfl
          rotate_left
          · simp only [Act.put, List.setIfInBounds_toArray, List.set_cons_zero, List.set_cons_succ, i64_w, i32_w]
            rfl
          refine pure_ (i := 4) (N := some 60) (v := ?_) (a' := ?_) #[true, true, false, true, true, false, false, false, false, false, false, false, false] rfl rfl (by kernel_rfl) (fun _ _ _ h => h) (Or.inl ⟨by rfl, ?_⟩) ?_ ?_
          rotate_left
          · intro w'
            go_simp
            with_reducible rfl
          rotate_left
          · simp only [Act.put, List.setIfInBounds_toArray, List.set_cons_zero, List.set_cons_succ, i64_w, i32_w]
            rfl
          refine pure_ (i := 8) (N := some 64) (v := ?_) (a' := ?_) #[true, true, false, true, true, false, false, false, true, false, false, false, false] rfl rfl (by kernel_rfl) (fun _ _ _ h => h) (Or.inl ⟨by rfl, ?_⟩) ?_ ?_
          rotate_left
          · intro w'
            go_simp
            with_reducible rfl
          rotate_left
          · simp only [Act.put, List.setIfInBounds_toArray, List.set_cons_zero, List.set_cons_succ, i64_w, i32_w]
            rfl
          refine take_ (i := 2) (N := some 58) (v := ?_) (a' := ?_) #[true, true, true, true, true, false, false, false, true, false, false, false, false] rfl rfl (by kernel_rfl) (fun _ _ _ h => h) (Or.inl ⟨by rfl, ?_⟩) hHeld ?_ ?_
          rotate_left
          · rintro w' ⟨s0, s1, s2⟩
            go_simp
            with_reducible rfl
          rotate_left
          · simp only [Act.put, List.setIfInBounds_toArray, List.set_cons_zero, List.set_cons_succ, i64_w, i32_w]
            rfl
          refine pure_ (i := 5) (N := some 61) (v := ?_) (a' := ?_) #[true, true, true, true, true, true, false, false, true, false, false, false, false] rfl rfl (by kernel_rfl) (fun _ _ _ h => h) (Or.inl ⟨by rfl, ?_⟩) ?_ ?_
          rotate_left
          · intro w'
            go_simp
            with_reducible rfl
          rotate_left
          · simp only [Act.put, List.setIfInBounds_toArray, List.set_cons_zero, List.set_cons_succ, i64_w, i32_w]
            rfl
          refine pure_ (i := 6) (N := some 62) (v := ?_) (a' := ?_) #[true, true, true, true, true, true, true, false, true, false, false, false, false] rfl rfl (by kernel_rfl) (fun _ _ _ h => h) (Or.inl ⟨by rfl, ?_⟩) ?_ ?_
          rotate_left
          · intro w'
            go_simp
            with_reducible rfl
          rotate_left
          · simp only [Act.put, List.setIfInBounds_toArray, List.set_cons_zero, List.set_cons_succ, i64_w, i32_w]
            rfl
          refine take_ (i := 7) (N := some 63) (v := ?_) (a' := ?_) #[true, true, true, true, true, true, true, true, true, false, false, false, false] rfl rfl (by kernel_rfl) (fun _ _ _ h => h) (Or.inl ⟨by rfl, ?_⟩) hHeld ?_ ?_
          rotate_left
          · rintro w' ⟨s0, s1, s2⟩
            go_simp
            with_reducible rfl
          rotate_left
          · simp only [Act.put, List.setIfInBounds_toArray, List.set_cons_zero, List.set_cons_succ, i64_w, i32_w]
            rfl
          refine take_ (i := 9) (N := some 65) (v := ?_) (a' := ?_) #[true, true, true, true, true, true, true, true, true, true, false, false, false] rfl rfl (by kernel_rfl) (fun _ _ _ h => h) (Or.inl ⟨by rfl, ?_⟩) hHeld ?_ ?_
          rotate_left
          · rintro w' ⟨s0, s1, s2⟩
            go_simp
            with_reducible rfl
          rotate_left
          · simp only [Act.put, List.setIfInBounds_toArray, List.set_cons_zero, List.set_cons_succ, i64_w, i32_w]
            rfl
          refine pure_ (i := 10) (N := some 66) (v := ?_) (a' := ?_) #[true, true, true, true, true, true, true, true, true, true, true, false, false] rfl rfl (by kernel_rfl) (fun _ _ _ h => h) (Or.inl ⟨by rfl, ?_⟩) ?_ ?_
          rotate_left
          · intro w'
            go_simp
            with_reducible rfl
          rotate_left
          · simp only [Act.put, List.setIfInBounds_toArray, List.set_cons_zero, List.set_cons_succ, i64_w, i32_w]
            rfl
          refine pure_ (i := 11) (N := some 67) (v := ?_) (a' := ?_) #[true, true, true, true, true, true, true, true, true, true, true, true, false] rfl rfl (by kernel_rfl) (fun _ _ _ h => h) (Or.inl ⟨by rfl, ?_⟩) ?_ ?_
          rotate_left
          · intro w'
            go_simp
            with_reducible rfl
          rotate_left
          · simp only [Act.put, List.setIfInBounds_toArray, List.set_cons_zero, List.set_cons_succ, i64_w, i32_w]
            rfl
          refine last_ (i := 12) (N := none) #[true, true, true, true, true, true, true, true, true, true, true, true, true] rfl rfl (by kernel_rfl) (by decide) (fun K hK => ?_)
          refine skip_ (w1 := ?_) (by rfl) rfl ?_ ?_
          rotate_left
          · go_simp
            rfl
          refine hK.out _ _ ?_
          clear hK K
          refine done_ (by kernel_rfl) ?_

          obtain ⟨w6, hw6⟩ : ∃ w6, w6 = (w5.setCell ⟨g, m, none⟩ (.int .u8 (bits BinOp.xor IntKind.u8 bm f.xor))).drew := ⟨_, rfl⟩
          rw [← hw6]
          have hne : x1 ≠ g := by
            rintro rfl
            have h8 := HX1.out.symm.trans HG5.out
            simp at h8
          have hgw : w.heap.size ≤ g := Nat.le_trans HF4.out.size hgb
          have hx16 : w6.heap[x1]? = some (.cells #[.int .i64 0, .slice none 0 0] 43 (0, 0)) := by rw [hw6]; exact (Below.heap_setCell _ _ _ _ (by exact hne)).trans HX1.out
          have hfk : Fr (fun k => k = g) w5 w6 := by rw [hw6]; exact (Fr.put1 (S := fun k => k = g) ⟨g, m, none⟩ _ rfl).drewN 1
          have HS6 := Aside0.mk (HS5.out.keep hfk (fun k hk e => HNX.out k (by rw [e]; exact hgw) hk))
          have HF6 := Aside0.mk (show Fr (Rg lo hi) w w6 from by rw [hw6]; exact (HFW.out.putN ⟨g, m, none⟩ _ hgw).drewN 1)
          have HB6 := Aside0.mk (show ByteRow w6 w.heap.size (.slice (some ⟨g, 0, none⟩) bs.length c5) (corrupt bs f) from by
            have h9 := HBW.out.corrupt (f := f) HHB.out
            rw [← HM.out.1, ← HM.out.2] at h9
            rw [hw6]
            exact h9)
          have HX6 := Aside0.mk hx16
          clear k0 k1 k2 k3 a0 a1 l0 l1 hcell hfz hHeld hw6 hne hgw hfk HX1 HS5 HFW HBW HB5 HG5
          have a0 : w6.cell? ⟨x1, 0, none⟩ = some (.int .i64 0) := (blk_cell hx16 0).trans rfl
          have a1 : w6.cell? ⟨x1, 1, none⟩ = some (.slice none 0 0) := (blk_cell hx16 1).trans rfl
          have l0 := row_frozen hx16 0
          have l1 := row_frozen hx16 1
          clear hx16
          go_wp2
          refine bodyPost_ret (v := .tuple #[.agg #[.int .i64 1, .slice (some ⟨g, 0, none⟩) bs.length c5], .int .i64 0]) ?_ rfl ?_
          · exact results_ct (fn := Try.f12) (p := 4) (u := 5) (ty := 43) rfl _ _ x1 43 #[.int .i64 1, .slice (some ⟨g, 0, none⟩) bs.length c5] (0, 0) _ rfl (put_at (put_at HX6.out 0 _) 1 _) Try.underlying43 rfl (by kernel_rfl)
          · refine ⟨_, by rw [HR.out], ?_, ?_, ?_⟩
            · rw [HR.out]
              exact HB6.out.ans HX6.out _ _
            · rw [HR.out]
              exact HS6.out.ans HX6.out _ _ (HNR.out _ HE.out.2)
            · exact (HF6.out.putN ⟨x1, 0, none⟩ _ (by show w.heap.size ≤ x1; have := HE.out; omega)).putN ⟨x1, 1, none⟩ _ (by show w.heap.size ≤ x1; have := HE.out; omega)
        · rw [if_neg hk3] at HR
          by_cases hk4 : f.kind = 3
          · have hkd3 : (f.kind == 3) = true := by rw [hk4]; rfl
            have hbl : decide ((bs.length : Int) > 0) = false := decide_eq_false (by intro q; exact hk3 ⟨hk4, by omega⟩)
            have hbl2 : ¬ 0 < bs.length := fun q => hk3 ⟨hk4, q⟩
            have hbl3 : ¬ ((bs.length : Int) > 0) := by omega
            clear hk3 hk4
            go_wp2
            refine bodyPost_ret (v := .tuple #[.agg #[.int .i64 1, (.slice A5 bs.length c5)], .int .i64 0]) ?_ rfl ?_
            · exact results_ct (fn := Try.f12) (p := 4) (u := 5) (ty := 43) rfl _ _ x1 43 #[.int .i64 1, (.slice A5 bs.length c5)] (0, 0) _ rfl (put_at (put_at HX1.out 0 _) 1 _) Try.underlying43 rfl (by kernel_rfl)
            · refine ⟨_, by rw [HR.out], ?_, ?_, ?_⟩
              · rw [HR.out]
                exact HBW.out.ans HX1.out _ _
              · rw [HR.out]
                exact (HS5.out).ans HX1.out _ _ (HNR.out _ HE.out.2)
              · exact ((HFW.out).putN ⟨x1, 0, none⟩ _ (by show w.heap.size ≤ x1; have := HE.out; omega)).putN ⟨x1, 1, none⟩ _ (by show w.heap.size ≤ x1; have := HE.out; omega)
          · have hkd3 : (f.kind == 3) = false := beq_eq_false_iff_ne.mpr hk4
            clear hk3 hk4
            go_wp2
            refine bodyPost_ret (v := .tuple #[.agg #[.int .i64 1, (.slice A5 bs.length c5)], .int .i64 0]) ?_ rfl ?_
            · exact results_ct (fn := Try.f12) (p := 4) (u := 5) (ty := 43) rfl _ _ x1 43 #[.int .i64 1, (.slice A5 bs.length c5)] (0, 0) _ rfl (put_at (put_at HX1.out 0 _) 1 _) Try.underlying43 rfl (by kernel_rfl)
            · refine ⟨_, by rw [HR.out], ?_, ?_, ?_⟩
              · rw [HR.out]
                exact HBW.out.ans HX1.out _ _
              · rw [HR.out]
                exact (HS5.out).ans HX1.out _ _ (HNR.out _ HE.out.2)
              · exact ((HFW.out).putN ⟨x1, 0, none⟩ _ (by show w.heap.size ≤ x1; have := HE.out; omega)).putN ⟨x1, 1, none⟩ _ (by show w.heap.size ≤ x1; have := HE.out; omega)
  · have hp : ptrAt ds (fi ds ad) = .pointer none := by unfold ptrAt; rw [if_neg hfd]
    rw [hp] at HFI
    clear hp
    have HR := Aside0.mk (show doR ds f ad reg wl n = (2, [], ds) from by unfold doR; rw [if_pos (.inr hfd)])
    clear HC HG HBY HFA hfd
    by_cases hk1 : f.kind = 1
    · have hkd : (f.kind == 1) = true := by rw [hk1]; rfl
      clear hk1
      go_upto_region 6 with (go_at_call 31; with_reducible refine HFI.out.mono ?_; rintro e w' ⟨rfl, hw'⟩; subst hw')
      go_wp2
      refine bodyPost_ret (v := .tuple #[.agg #[.int .i64 2, (.slice none 0 0)], .int .i64 0]) ?_ rfl ?_
      · exact results_ct (fn := Try.f12) (p := 4) (u := 5) (ty := 43) rfl _ _ x1 43 #[.int .i64 2, (.slice none 0 0)] (0, 0) _ rfl (put_at (put_at HX1.out 0 _) 1 _) Try.underlying43 rfl (by kernel_rfl)
      · refine ⟨_, by rw [HR.out], ?_, ?_, ?_⟩
        · rw [HR.out]
          exact .inl ⟨rfl, rfl⟩
        · rw [HR.out]
          exact (HS4.out).ans HX1.out _ _ (HNR.out _ HE.out.2)
        · exact ((HF4.out).putN ⟨x1, 0, none⟩ _ (by show w.heap.size ≤ x1; have := HE.out; omega)).putN ⟨x1, 1, none⟩ _ (by show w.heap.size ≤ x1; have := HE.out; omega)
    · have hkd : (f.kind == 1) = false := beq_eq_false_iff_ne.mpr hk1
      clear hk1
      go_upto_region 6 with (go_at_call 31; with_reducible refine HFI.out.mono ?_; rintro e w' ⟨rfl, hw'⟩; subst hw')
      go_wp2
      refine bodyPost_ret (v := .tuple #[.agg #[.int .i64 2, (.slice none 0 0)], .int .i64 0]) ?_ rfl ?_
      · exact results_ct (fn := Try.f12) (p := 4) (u := 5) (ty := 43) rfl _ _ x1 43 #[.int .i64 2, (.slice none 0 0)] (0, 0) _ rfl (put_at (put_at HX1.out 0 _) 1 _) Try.underlying43 rfl (by kernel_rfl)
      · refine ⟨_, by rw [HR.out], ?_, ?_, ?_⟩
        · rw [HR.out]
          exact .inl ⟨rfl, rfl⟩
        · rw [HR.out]
          exact (HS4.out).ans HX1.out _ _ (HNR.out _ HE.out.2)
        · exact ((HF4.out).putN ⟨x1, 0, none⟩ _ (by show w.heap.size ≤ x1; have := HE.out; omega)).putN ⟨x1, 1, none⟩ _ (by show w.heap.size ≤ x1; have := HE.out; omega)
end Go.Proofs.Ytpolofolibabiaa.Bs
