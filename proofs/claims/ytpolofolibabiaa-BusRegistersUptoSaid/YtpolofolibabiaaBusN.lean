/-
  Package bus: Dev, Tick.
  No conditions.
-/
import Derived.Test.YtpolofolibabiaaBusM
namespace Go.Proofs.Ytpolofolibabiaa.Bs
open Go Go.RowKit Go.Lib Go.Proofs.YtpolofolibabiaaW.PrintWords Go.Proofs.YtpolofolibabiaaW.PrintLast Go.Proofs.YtpolofolibabiaaW.PrintMore
set_option linter.unusedVariables false
set_option linter.unusedSimpArgs false
def devNo : Value := .agg #[.int .i64 0, .bool false, .int .i64 0, .int .i64 0, .int .i64 0, .int .i64 0]
def devV (x : Dv) : Value := .agg #[.int .i64 x.addr, .bool x.on, .int .i64 x.per, .int .i64 (x.q.length : Int), .int .i64 x.lost, .int .i64 (x.next : Int)]
set_option maxHeartbeats 8000000 in
set_option maxRecDepth 100000 in
theorem dev_ (w : World) (lo hi r : Nat) (ds : List Bd) (F : List Fl) (cnt : Int) (h : BusS w lo hi r ds F cnt) (a : Int) : Calls Try.prog 14 #[.pointer (some ⟨r, 0, none⟩), .int .i64 a] w fun e w' => e = .returned (.tuple #[if fi ds a < ds.length then devV ds[fi ds a]!.x else devNo, .int .i64 (if fi ds a < ds.length then 0 else 5)]) ∧ Below w.heap.size w w' := by
  have HF := Aside0.mk (fun W h => find_ W lo hi r ds F cnt h a)
  have H := Aside0.mk h
  clear h
  by_cases hf : fi ds a < ds.length
  · have hp : ptrAt ds (fi ds a) = .pointer (some ⟨ds[fi ds a]!.p.d, 0, none⟩) := by unfold ptrAt; rw [if_pos hf]
    rw [hp] at HF
    rw [if_pos hf, if_pos hf]
    have hd := (H.out.dev _ hf).1
    generalize ds[fi ds a]! = D at hd HF ⊢
    clear hp hf
    obtain ⟨p, lv, x⟩ := D
    have HD := Aside0.mk hd
    clear hd
    go_enter Try.func14, Try.ntmps14
    go_upto_region 4 with (go_at_call 31; with_reducible refine (HF.out _ (H.out.below (below_alloc (Below.refl _ _) _))).mono ?_; rintro e w' ⟨rfl, rfl⟩)
    obtain ⟨w1, hw1⟩ : ∃ w1, w1 = w.alloc (.cells #[.int .i64 0, .bool false, .int .i64 0, .int .i64 0, .int .i64 0, .int .i64 0] 48) := ⟨_, rfl⟩
    rw [← hw1]
    have HB1 := Aside0.mk (show Below w.heap.size w w1 from hw1 ▸ below_alloc (Below.refl _ _) _)
    have hx1 : w1.heap[w.heap.size]? = some (.cells #[.int .i64 0, .bool false, .int .i64 0, .int .i64 0, .int .i64 0, .int .i64 0] 48 (0, 0)) := by rw [hw1]; exact blk_new w _
    have hd1 := HD.out.below HB1.out
    obtain ⟨z0, z1, z2, z3, z4, z5, z6, z7, z8, z9, z10⟩ := hd1.at
    obtain ⟨y, hy⟩ : ∃ y, y = w.heap.size := ⟨_, rfl⟩
    rw [← hy] at hx1 ⊢
    have HY := Aside0.mk hy
    have HD1 := Aside0.mk hd1
    have HX1 := Aside0.mk hx1
    clear hw1 hx1 hy hd1
    go_upto_region 5 with fail
    obtain ⟨w2, hw2⟩ : ∃ w2, w2 = w1.alloc (.cells #[.int .i64 x.addr, .bool x.on, .int .i64 x.per, .int .i64 0, .int .i64 x.lost, .int .i64 (x.next : Int)] 48) := ⟨_, rfl⟩
    rw [← hw2]
    have hb2 : Below w1.heap.size w1 w2 := hw2 ▸ below_alloc (Below.refl _ _) _
    have hx2 : w2.heap[w1.heap.size]? = some (.cells #[.int .i64 x.addr, .bool x.on, .int .i64 x.per, .int .i64 0, .int .i64 x.lost, .int .i64 (x.next : Int)] 48 (0, 0)) := by rw [hw2]; exact blk_new w1 _
    have hd2 := HD1.out.below hb2
    have hy2 := (hb2.block y (Array.getElem?_eq_some_iff.1 HX1.out).1).trans HX1.out
    have hyy : y ≠ w1.heap.size := Nat.ne_of_lt (Array.getElem?_eq_some_iff.1 HX1.out).1
    have hge : w.heap.size ≤ w1.heap.size := HB1.out.size
    obtain ⟨y2, hyn⟩ : ∃ y2, y2 = w1.heap.size := ⟨_, rfl⟩
    rw [← hyn] at hx2 hyy hge ⊢
    have HB2 := Aside0.mk (show Below w.heap.size w w2 from ⟨hb2.os.trans HB1.out.os, hb2.tape.trans HB1.out.tape, hb2.output.trans HB1.out.output, Nat.le_trans HB1.out.size hb2.size, fun k hk => (hb2.block k (Nat.lt_of_lt_of_le hk HB1.out.size)).trans (HB1.out.block k hk)⟩)
    have HL := Aside0.mk (lenQ _ _ _ _ _ hd2.ring)
    have HX2 := Aside0.mk hx2
    have HY2 := Aside0.mk hy2
    have HN := Aside0.mk (And.intro hyy hge)
    clear z0 z1 z2 z3 z4 z5 z6 z7 z8 z9 z10 hw2
    obtain ⟨z0, z1, z2, z3, z4, z5, z6, z7, z8, z9, z10⟩ := hd2.at
    clear hb2 hx2 hd2 hy2 hyy hge hyn
    have f3 := row_frozen HX2.out 3
    have c3 : w2.cell? ⟨y2, 3, none⟩ = some (.int .i64 0) := (blk_cell HX2.out 3).trans rfl
    go_upto_region 6 with (go_at_call 35; with_reducible refine HL.out.mono ?_; rintro e w' ⟨rfl, np, rfl⟩)
    obtain ⟨w3, hw3⟩ : ∃ w3, w3 = (w2.drewN np).setCell ⟨y2, 3, none⟩ (.int .i64 (x.q.length : Int)) := ⟨_, rfl⟩
    rw [← hw3]
    have hx3 : w3.heap[y2]? = some (.cells #[.int .i64 x.addr, .bool x.on, .int .i64 x.per, .int .i64 (x.q.length : Int), .int .i64 x.lost, .int .i64 (x.next : Int)] 48 (0, 0)) := by rw [hw3]; exact put_at (w := w2.drewN np) HX2.out 3 _
    have hy3 : w3.heap[y]? = some (.cells #[.int .i64 0, .bool false, .int .i64 0, .int .i64 0, .int .i64 0, .int .i64 0] 48 (0, 0)) := by rw [hw3]; exact (Below.heap_setCell _ _ _ _ HN.out.1).trans HY2.out
    have HB3 := Aside0.mk (show Below w.heap.size w w3 from by rw [hw3]; exact (show Below w.heap.size w (w2.drewN np) from ⟨HB2.out.os, HB2.out.tape, HB2.out.output, HB2.out.size, HB2.out.block⟩).setCell (by exact HN.out.2) _)
    clear hw3 z0 z1 z2 z3 z4 z5 z6 z7 z8 z9 z10 f3 c3
    have c0 : w3.cell? ⟨y2, 0, none⟩ = some (.int .i64 x.addr) := (blk_cell hx3 0).trans rfl
    have c1 : w3.cell? ⟨y2, 1, none⟩ = some (.bool x.on) := (blk_cell hx3 1).trans rfl
    have c2 : w3.cell? ⟨y2, 2, none⟩ = some (.int .i64 x.per) := (blk_cell hx3 2).trans rfl
    have c3 : w3.cell? ⟨y2, 3, none⟩ = some (.int .i64 (x.q.length : Int)) := (blk_cell hx3 3).trans rfl
    have c4 : w3.cell? ⟨y2, 4, none⟩ = some (.int .i64 x.lost) := (blk_cell hx3 4).trans rfl
    have c5 : w3.cell? ⟨y2, 5, none⟩ = some (.int .i64 (x.next : Int)) := (blk_cell hx3 5).trans rfl
    have d0 : w3.cell? ⟨y, 0, none⟩ = some (.int .i64 0) := (blk_cell hy3 0).trans rfl
    have d1 : w3.cell? ⟨y, 1, none⟩ = some (.bool false) := (blk_cell hy3 1).trans rfl
    have d2 : w3.cell? ⟨y, 2, none⟩ = some (.int .i64 0) := (blk_cell hy3 2).trans rfl
    have d3 : w3.cell? ⟨y, 3, none⟩ = some (.int .i64 0) := (blk_cell hy3 3).trans rfl
    have d4 : w3.cell? ⟨y, 4, none⟩ = some (.int .i64 0) := (blk_cell hy3 4).trans rfl
    have d5 : w3.cell? ⟨y, 5, none⟩ = some (.int .i64 0) := (blk_cell hy3 5).trans rfl
    have f0 := row_frozen hy3 0
    have f1 := row_frozen hy3 1
    have f2 := row_frozen hy3 2
    have f3 := row_frozen hy3 3
    have f4 := row_frozen hy3 4
    have f5 := row_frozen hy3 5
    have HY3 := Aside0.mk hy3
    clear hx3 hy3
    go_wp2
    refine bodyPost_ret (v := .tuple #[devV x, .int .i64 0]) ?_ rfl ?_
    · exact results_ct (fn := Try.f14) (p := 4) (u := 5) (ty := 48) rfl _ _ y 48 #[.int .i64 x.addr, .bool x.on, .int .i64 x.per, .int .i64 (x.q.length : Int), .int .i64 x.lost, .int .i64 (x.next : Int)] (0, 0) _ rfl (put_at (put_at (put_at (put_at (put_at (put_at HY3.out 0 _) 1 _) 2 _) 3 _) 4 _) 5 _) Try.underlying48 rfl (by kernel_rfl)
    · have hyb : w.heap.size ≤ y := by rw [HY.out]; exact Nat.le_refl _
      exact ⟨rfl, (((((HB3.out.setCell hyb _).setCell hyb _).setCell hyb _).setCell hyb _).setCell hyb _).setCell hyb _⟩
  · have hp : ptrAt ds (fi ds a) = .pointer none := by unfold ptrAt; rw [if_neg hf]
    rw [hp] at HF
    rw [if_neg hf, if_neg hf]
    clear hp hf
    go_enter Try.func14, Try.ntmps14
    go_wp2_with (go_at_call 31; with_reducible refine (HF.out _ (H.out.below (below_alloc (Below.refl _ _) _))).mono ?_; rintro e w' ⟨rfl, rfl⟩)
    refine bodyPost_ret (v := .tuple #[devNo, .int .i64 5]) ?_ rfl ⟨rfl, below_alloc (Below.refl _ _) _⟩
    exact results_ct (fn := Try.f14) (p := 4) (u := 5) (ty := 48) rfl _ _ w.heap.size 48 #[.int .i64 0, .bool false, .int .i64 0, .int .i64 0, .int .i64 0, .int .i64 0] (0, 0) _ rfl (blk_new w _) Try.underlying48 rfl (by kernel_rfl)
def DS (ds : List Bd) : Nat → Prop := fun k => ∃ j, j < ds.length ∧ FS ds[j]!.p k
theorem BusS.rowfix {w : World} {lo hi r : Nat} {ds : List Bd} {F : List Fl} {cnt : Int} (h : BusS w lo hi r ds F cnt) : ∃ A cap, w.cell? ⟨r, 0, none⟩ = some (.slice A ds.length cap) ∧ ∀ W, Fr (DS ds) w W → ∀ j, j < ds.length → ∃ b, A = some ⟨b, 0, none⟩ ∧ W.cell? ⟨b, j, none⟩ = some (.pointer (some ⟨ds[j]!.p.d, 0, none⟩)) := by
  obtain ⟨rv, fm, h1, h2, _⟩ := h.head
  rcases h2 with ⟨rfl, rfl⟩ | ⟨b, cap, cs, rfl, _, _, h4, h5⟩
  · exact ⟨none, 0, (blk_cell h1 0).trans rfl, fun _ _ j hj => absurd hj (Nat.not_lt_zero j)⟩
  · refine ⟨_, cap, (blk_cell h1 0).trans rfl, fun W hW j hj => ⟨b, rfl, (blk_cell (hW.blk h4 ?_) j).trans (h5 j hj)⟩⟩
    rintro ⟨i, hi', hk⟩
    have k1 := (h.dev i hi').1
    rcases hk with e | e | e | e
    · rw [e, k1.head] at h4
      simp at h4
    · obtain ⟨_, _, _, q⟩ := ring_head k1.ring
      rw [e, q] at h4
      simp at h4
    · obtain ⟨_, q⟩ := ring_row k1.ring
      rw [e, q] at h4
      simp at h4
    · obtain ⟨_, _, _, _, _, _, q⟩ := ring_chan k1.ring
      rw [e, q] at h4
      simp at h4
def tk (d : Bd) : Bd := { d with x := d.x.tick }
def part (ds : List Bd) (i : Nat) : List Bd := (ds.take i).map tk ++ ds.drop i
theorem part_len (ds : List Bd) (i : Nat) : (part ds i).length = ds.length := by
  unfold part
  rw [List.length_append, List.length_map, List.length_take, List.length_drop]
  omega
theorem part_ge (ds : List Bd) (i j : Nat) (hij : i ≤ j) (hj : j < ds.length) : (part ds i)[j]! = ds[j]! := by
  rw [getElem!_pos _ j (by rw [part_len]; exact hj), getElem!_pos ds j hj]
  unfold part
  rw [List.getElem_append_right (by rw [List.length_map, List.length_take]; omega)]
  simp only [List.length_map, List.length_take, List.getElem_drop]
  congr 1
  omega
theorem part_succ (ds : List Bd) (i : Nat) (hi : i < ds.length) : (part ds i).set i (tk ds[i]!) = part ds (i + 1) := by
  unfold part
  have hl : ((ds.take i).map tk).length = i := by rw [List.length_map, List.length_take]; omega
  rw [List.set_append_right _ _ (by omega), hl, Nat.sub_self, List.drop_eq_getElem_cons hi, List.set_cons_zero, List.take_add_one, List.getElem?_eq_getElem hi, List.map_append, List.append_assoc, getElem!_pos ds i hi]
  rfl
theorem part_all (ds : List Bd) : part ds ds.length = ds.map tk := by
  unfold part
  rw [List.take_length, List.drop_length, List.append_nil]
theorem part_zero (ds : List Bd) : part ds 0 = ds := rfl
theorem Dv.Ok.tick {x : Dv} (h : x.Ok) : x.tick.Ok := by
  obtain ⟨h1, h2, h3, h4, h5, h6⟩ := h
  unfold Dv.tick
  split
  · exact ⟨h1, h2, h3, h4, h5, h6⟩
  split
  · rename_i a b
    exact ⟨by show 0 ≤ x.cnt + 1; omega, by show x.cnt + 1 ≤ 256; omega, h3, h4, h5, h6⟩
  split
  · exact ⟨by show (0 : Int) ≤ 0; omega, by show (0 : Int) ≤ 256; omega, h3, h4, h5, h6⟩
  split
  · rename_i a b c d
    exact ⟨by show (0 : Int) ≤ 0; omega, by show (0 : Int) ≤ 256; omega, h3, h4, h5, fun _ => Nat.mod_lt _ (Nat.pos_of_ne_zero c)⟩
  · rename_i a b c d
    exact ⟨by show (0 : Int) ≤ 0; omega, by show (0 : Int) ≤ 256; omega, h3, h4, h5, fun _ => Nat.mod_lt _ (Nat.pos_of_ne_zero c)⟩
def tks : Nat → List Bd → List Bd
  | 0, ds => ds
  | n + 1, ds => (tks n ds).map tk
theorem tks_len (n : Nat) (ds : List Bd) : (tks n ds).length = ds.length := by
  induction n with
  | zero => rfl
  | succ n ih => rw [tks, List.length_map, ih]
theorem tks_p (n : Nat) (ds : List Bd) (j : Nat) (hj : j < ds.length) : (tks n ds)[j]!.p = ds[j]!.p := by
  induction n with
  | zero => rfl
  | succ n ih =>
    rw [← ih, tks, getElem!_pos _ j (by rw [List.length_map, tks_len]; exact hj), List.getElem_map, getElem!_pos (tks n ds) j (by rw [tks_len]; exact hj)]
    rfl
set_option maxHeartbeats 8000000 in
set_option maxRecDepth 100000 in
theorem busTick_ (w : World) (lo hi r : Nat) (ds : List Bd) (F : List Fl) (cnt : Int) (h : BusS w lo hi r ds F cnt) (n : Nat) (hn : n ≤ 1000) : Calls Try.prog 16 #[.pointer (some ⟨r, 0, none⟩), .int .i64 (n : Int)] w fun e w' => e = .returned (.int .i64 0) ∧ BusS w' lo hi r (tks n ds) F cnt ∧ Fr (Rg lo hi) w w' := by
  have H := Aside0.mk h
  clear h
  have hn0 : ¬ (n : Int) < 0 := by omega
  have hn1 : ¬ (n : Int) > 1000 := by omega
  have hd0 : decide ((n : Int) < 0) = false := decide_eq_false hn0
  have hd1 : decide ((n : Int) > 1000) = false := decide_eq_false hn1
  go_enter Try.func16, Try.ntmps16
  go_wp2_with fail
  refine Cu.wp_loop (Cu.rep 6 Cu.f (Cu.rep 1 Cu.t (Cu.rep 7 Cu.f (Cu.rep 15 Cu.t [])))) 16 (fun kq us_ w' => ∃ k : Nat, (Cu.nth us_ 1) = .int .i64 (k : Int) ∧ Aside0 (kq + k = n) ∧ Aside0 (BusS w' lo hi r (tks k ds) F cnt) ∧ Aside0 (Fr (Rg lo hi) w w')) n ?_ (by kernel_rfl) (by kernel_rfl) ?_
  · try dsimp only [Cu.pick, Cu.rep, Cu.nth]
    exact ⟨0, rfl, ⟨rfl⟩, H, ⟨Fr.refl _ _⟩⟩
  · clear H
    intro gk wr u6 u14 u15 u16 u17 u18 u19 u20 u21 u22 u23 u24 u25 u26 u27 u28
    try dsimp only [Cu.over, Cu.rep, Cu.nth]
    intro hrel _ _ _ _
    obtain ⟨k, rfl, HK, HB, HF⟩ := hrel
    by_cases hk : k < n
    · have hkd : decide ((k : Int) < (n : Int)) = true := decide_eq_true (by omega)
      obtain ⟨es, hes⟩ : ∃ es, es = tks k ds := ⟨_, rfl⟩
      rw [← hes] at HB
      obtain ⟨A, cap, c0, hA⟩ := HB.out.rowfix
      have HA := Aside0.mk hA
      have HES := Aside0.mk hes
      have hfew := HB.out.few
      clear hA hes
      go_wp2_with fail
      refine Cu.wp_loop (Cu.rep 6 Cu.f (Cu.rep 1 Cu.t (Cu.rep 14 Cu.f (Cu.rep 7 Cu.t (Cu.rep 1 Cu.f []))))) 8 (fun kq us_ w' => ∃ i : Nat, (Cu.nth us_ 1) = .int .i64 (i : Int) ∧ Aside0 (kq + i = es.length) ∧ Aside0 (BusS w' lo hi r (part es i) F cnt) ∧ Aside0 (Fr (Rg lo hi) wr w' ∧ Fr (DS es) wr w')) es.length ?_ (by kernel_rfl) (by kernel_rfl) ?_
      · try dsimp only [Cu.pick, Cu.rep, Cu.nth]
        exact ⟨0, rfl, ⟨rfl⟩, HB, ⟨Fr.refl _ _, Fr.refl _ _⟩⟩
      · clear HB c0
        intro gi wi r6 r21 r22 r23 r24 r25 r26 r27
        try dsimp only [Cu.over, Cu.rep, Cu.nth]
        intro hrel _ _ _ _
        obtain ⟨i, rfl, HI, HBi, HFi⟩ := hrel
        by_cases hi2 : i < es.length
        · have hid : decide ((i : Int) < (es.length : Int)) = true := decide_eq_true (by omega)
          have hii : (i : Int) < (es.length : Int) := by omega
          obtain ⟨b, rfl, hc⟩ := HA.out wi HFi.out.2 i hi2
          have hpl : i < (part es i).length := by rw [part_len]; exact hi2
          obtain ⟨k1, k2, k3, k4⟩ := HBi.out.dev i hpl
          rw [part_ge es i i (Nat.le_refl _) hi2] at k1 k2
          have HT := Aside0.mk (tick_ wi es[i]!.p es[i]!.lv es[i]!.x k1 k2)
          have HK2 := Aside0.mk k2
          obtain ⟨d, hd⟩ : ∃ d, d = es[i]!.p.d := ⟨_, rfl⟩
          rw [← hd] at hc HT
          clear k1 k2 k3 k4 hpl hd
          go_wp2_with (go_at_call 36; with_reducible refine HT.out.mono ?_; rintro e w3 ⟨rfl, hd3, hf3⟩; have HD3 := Aside0.mk hd3; have HF3 := Aside0.mk hf3; clear hd3 hf3)
          have hi := HI.out
          refine Cu.handed (es.length - (i + 1)) (by omega) (by assumption) ?_ (by kernel_rfl) (by kernel_rfl)
          try dsimp only [Cu.pick, Cu.rep, Cu.nth]
          have hpi := part_ge es i i (Nat.le_refl _) hi2
          have h1 := HBi.out.one i (by rw [part_len]; exact hi2) (by rw [hpi]; exact HF3.out) es[i]!.x.tick (by rw [hpi]; exact HD3.out) HK2.out.tick
          rw [hpi] at h1
          have h2 := part_succ es i hi2
          unfold tk at h2
          rw [h2] at h1
          exact ⟨i + 1, by rw [Int.natCast_add]; rfl, ⟨by omega⟩, ⟨h1.1⟩, ⟨HFi.out.1.trans h1.2, HFi.out.2.trans (HF3.out.mono fun q hq => ⟨i, hi2, hq⟩)⟩⟩
        · have hid : decide ((i : Int) < (es.length : Int)) = false := decide_eq_false (by omega)
          go_wp2
          have hk2 := HK.out
          have hi3 := HI.out
          refine Cu.handed (n - (k + 1)) (by omega) (by assumption) ?_ (by kernel_rfl) (by kernel_rfl)
          try dsimp only [Cu.pick, Cu.rep, Cu.nth]
          refine ⟨k + 1, by rw [Int.natCast_add]; rfl, ⟨by omega⟩, ⟨?_⟩, ⟨HF.out.trans HFi.out.1⟩⟩
          have hbi := HBi.out
          rw [show i = es.length by omega, part_all, HES.out] at hbi
          exact hbi
    · have hkd : decide ((k : Int) < (n : Int)) = false := decide_eq_false (by omega)
      go_wp2
      go_ret
      have hkn : k = n := by have := HK.out; omega
      refine ⟨rfl, ?_, HF.out⟩
      rw [← hkn]
      exact HB.out
end Go.Proofs.Ytpolofolibabiaa.Bs
