/-
  Package bus: New.
  No conditions.
-/
import Derived.Test.YtpolofolibabiaaBusQ
namespace Go.Proofs.Ytpolofolibabiaa.Bs
open Go Go.RowKit Go.Lib Go.Proofs.YtpolofolibabiaaW.PrintWords Go.Proofs.YtpolofolibabiaaW.PrintLast Go.Proofs.YtpolofolibabiaaW.PrintMore
set_option linter.unusedVariables false
set_option linter.unusedSimpArgs false
def toRw (s : S60) : Rw := ⟨s.f0, s.f1, s.f2, s.f3⟩
def mkDv (s : S35) : Dv := ⟨s.f0, s.f1, s.f2.map toRw, false, 1, 0, 0, 0, []⟩
def mkFl (s : S54) : Fl := ⟨s.f0, s.f1, s.f2, s.f3⟩
def ptrD (d : Bd) : Value := .pointer (some ⟨d.p.d, 0, none⟩)
theorem infoP : (Try.prog.info? 77).map (fun i => (i.zero, i.size, i.bytes)) = some (some (.pointer none), 1, 8) := by kernel_rfl
theorem Rg_mono {lo hi hi' k : Nat} (h : Rg lo hi k) (hh : hi ≤ hi') : Rg lo hi' k := ⟨h.1, by have := h.2; omega⟩
theorem BusS.wide {w : World} {lo hi hi' r : Nat} {ds : List Bd} {F : List Fl} {cnt : Int} (h : BusS w lo hi r ds F cnt) (h1 : hi ≤ hi') (h2 : hi' ≤ w.heap.size) : BusS w lo hi' r ds F cnt := by
  obtain ⟨rv, fm, g1, g2, g3, g4⟩ := h.head
  refine ⟨⟨rv, fm, g1, ?_, Rg_mono g3 h1, g4⟩, Rg_mono h.rr h1, h2, fun j hj => ?_, h.apart, h.few⟩
  · rcases g2 with g2 | ⟨b, cap, cs, e1, e2, e3, e4⟩
    · exact .inl g2
    · exact .inr ⟨b, cap, cs, e1, e2, Rg_mono e3 h1, e4⟩
  · obtain ⟨k1, k2, k3, k4⟩ := h.dev j hj
    exact ⟨k1, k2, fun k hk => Rg_mono (k3 k hk) h1, fun m hm => Rg_mono (k4 m hm) h1⟩
theorem DevQ.types {w : World} {p : Pl} {lv : Value} {x : Dv} (h : DevQ w p lv x) {k : Nat} (hk : FS p k ∨ lv.ownBlock = some k) {cs : Array Value} {t : TypeId} (hc : w.heap[k]? = some (.cells cs t (0, 0))) : t ≠ 75 ∧ t ≠ 77 := by
  have key : t = 83 ∨ t = 103 ∨ t = 60 := by
    rcases hk with (e | e | e | e) | e
    · subst e
      rw [h.head] at hc
      simp only [Option.some.injEq, Obj.cells.injEq] at hc
      exact .inl hc.2.1.symm
    · subst e
      obtain ⟨_, _, _, q⟩ := ring_head h.ring
      rw [q] at hc
      simp only [Option.some.injEq, Obj.cells.injEq] at hc
      exact .inr (.inl hc.2.1.symm)
    · subst e
      obtain ⟨_, q⟩ := ring_row h.ring
      rw [q] at hc
      simp only [Option.some.injEq, Obj.cells.injEq] at hc
      exact .inr (.inr hc.2.1.symm)
    · subst e
      obtain ⟨_, _, _, _, _, _, q⟩ := ring_chan h.ring
      rw [q] at hc
      simp at hc
    · rcases h.list with ⟨_, e2⟩ | ⟨m', cap, cs2, e2, _, e3, _⟩
      · rw [e2] at e
        simp [Value.ownBlock] at e
      · rw [e2] at e
        simp only [Value.ownBlock, Option.some.injEq] at e
        subst e
        rw [e3] at hc
        simp only [Option.some.injEq, Obj.cells.injEq] at hc
        exact .inr (.inr hc.2.1.symm)
  rcases key with e | e | e <;> subst e <;> exact ⟨by decide, by decide⟩
/-- One more device. -/
theorem BusS.snoc {S : Nat → Prop} {w w' : World} {lo hi hi' r : Nat} {ds : List Bd} {F : List Fl} {cnt : Int} (h : BusS w lo hi r ds F cnt) (hf : Fr S w w') (hS : ∀ k, S k → ∃ cs t, w.heap[k]? = some (.cells cs t (0, 0)) ∧ (t = 75 ∨ t = 77)) (rv : Value) (fm : Nat) (hh : w'.heap[r]? = some (.cells #[rv, .map (some fm), .int .i64 cnt] 75 (0, 0))) (hm : Rg lo hi fm ∧ ∃ es ck, w.heap[fm]? = some (.map es ck) ∧ MapF es F) (d : Bd) (hr : RowP w' lo hi' rv (ds ++ [d])) (hd : DevQ w' d.p d.lv d.x) (ho : d.x.Ok) (h1 : hi ≤ hi') (h2 : hi' ≤ w'.heap.size) (hl : lo ≤ hi) (hn : ∀ k, FS d.p k → hi ≤ k ∧ k < hi') (hn2 : ∀ m, d.lv.ownBlock = some m → hi ≤ m ∧ m < hi') (hfew : ds.length < 8) : BusS w' lo hi' r (ds ++ [d]) F cnt := by
  obtain ⟨m1, es, ck, m2, m3⟩ := hm
  have hge : ∀ j, j < ds.length → (ds ++ [d])[j]! = ds[j]! := fun j hj => by
    rw [getElem!_pos _ j (by rw [List.length_append]; simp; omega), getElem!_pos ds j hj, List.getElem_append_left hj]
  have hlast : (ds ++ [d])[ds.length]! = d := by
    rw [getElem!_pos _ _ (by rw [List.length_append]; simp), List.getElem_append_right (Nat.le_refl _)]
    simp
  refine ⟨⟨rv, fm, hh, hr, Rg_mono m1 h1, es, ck, hf.blk m2 (fun q => ?_), m3⟩, Rg_mono h.rr h1, h2, fun j hj => ?_, fun a b ha hb hne k hk => ?_, by rw [List.length_append]; simp; omega⟩
  · obtain ⟨cs, t, q1, _⟩ := hS fm q
    rw [m2] at q1
    cases q1
  · rw [List.length_append, List.length_singleton] at hj
    by_cases hjl : j < ds.length
    · rw [hge j hjl]
      obtain ⟨k1, k2, k3, k4⟩ := h.dev j hjl
      have hno : ∀ k, (FS ds[j]!.p k ∨ ds[j]!.lv.ownBlock = some k) → ¬ S k := fun k hk q => by
        obtain ⟨cs, t, q1, q2⟩ := hS k q
        have := k1.types hk q1
        rcases q2 with q2 | q2
        · exact this.1 q2
        · exact this.2 q2
      exact ⟨k1.keep hf (hno _ (.inl (.inl rfl))) (hno _ (.inl (.inr (.inl rfl)))) (hno _ (.inl (.inr (.inr (.inl rfl))))) (hno _ (.inl (.inr (.inr (.inr rfl))))) (fun m hm => hno m (.inr hm)), k2, fun k hk => Rg_mono (k3 k hk) h1, fun m hm => Rg_mono (k4 m hm) h1⟩
    · have : j = ds.length := by omega
      subst this
      rw [hlast]
      exact ⟨hd, ho, fun k hk => ⟨by have := hn k hk; omega, (hn k hk).2⟩, fun m hm => ⟨by have := hn2 m hm; omega, (hn2 m hm).2⟩⟩
  · rw [List.length_append, List.length_singleton] at ha hb
    by_cases hal : a < ds.length
    · rw [hge a hal] at hk
      have hkr := (h.dev a hal).2.2.1 k hk
      by_cases hbl : b < ds.length
      · rw [hge b hbl]
        exact h.apart a b hal hbl hne k hk
      · have : b = ds.length := by omega
        subst this
        rw [hlast]
        exact ⟨fun q => by have := hn k q; have := hkr.2; omega, fun q => by have := hn2 k q; have := hkr.2; omega⟩
    · have : a = ds.length := by omega
      subst this
      rw [hlast] at hk
      have hkr := hn k hk
      have hbl : b < ds.length := by omega
      rw [hge b hbl]
      obtain ⟨_, _, k3, k4⟩ := h.dev b hbl
      exact ⟨fun q => by have := (k3 k q).2; omega, fun q => by have := (k4 k q).2; omega⟩
theorem own_row {w : World} {lo hi : Nat} {rv : Value} {ds : List Bd} (h : w.ownsRow lo 77 1 rv ds.length (ds.map ptrD)) (hh : ∀ k, rv.ownBlock = some k → k < hi) : RowP w lo hi rv ds := by
  obtain ⟨hlen, ⟨hv, hz⟩ | ⟨g, cap, cur, hv, hg, hc, hnc, hm, hs, ht⟩⟩ := h
  · exact .inl ⟨List.eq_nil_of_length_eq_zero hz, hv⟩
  · refine .inr ⟨g, cap, cur, hv, hnc, ⟨hg, hh g (by rw [hv]; rfl)⟩, hc, fun j hj => ?_⟩
    have h1 : (cur.toList.take (ds.length * 1))[j]? = some (ptrD ds[j]!) := by
      rw [ht, List.getElem?_map, List.getElem?_eq_getElem hj, getElem!_pos ds j hj]
      rfl
    rw [List.getElem?_take] at h1
    split at h1
    · rw [Array.getElem?_toList] at h1
      exact h1
    · cases h1
structure GoodM (ms : List S35) (fs : List S54) : Prop where
  m8 : ms.length ≤ 8
  f12 : fs.length ≤ 4096
  good : ∀ i : Nat, i < ms.length → ∃ k, bus_goodModel.f k (rd_T35 ms i).f0 (rd_T35 ms i).f1 (rd_T35 ms i).f2 = some true
  list : ∀ i : Nat, i < ms.length → (rd_T35 ms i).f2.length ≤ 4096
  apart : ∀ i j : Nat, j < i → i < ms.length → (rd_T35 ms j).f0 ≠ (rd_T35 ms i).f0
  flt : ∀ i : Nat, i < fs.length → 1 ≤ (rd_T54 fs i).f0 ∧ 1 ≤ (rd_T54 fs i).f1 ∧ (rd_T54 fs i).f1 ≤ 3 ∧ 0 ≤ (rd_T54 fs i).f2
theorem k60_KM {w : World} {base : Nat} {ok : Nat → Prop} {x : S60} {cs : List Value} (h : k60.K w x cs) : k60.M w base ok x cs := by
  rw [k60_open h]
  exact k60_mkM _ _ _ _
theorem own_slice {w : World} {base e size n : Nat} {v : Value} {xs : List Value} (h : w.ownsRow base e size v n xs) : ∃ A c, v = .slice A n c := by
  obtain ⟨_, ⟨hv, hz⟩ | ⟨g, cap, cur, hv, _⟩⟩ := h
  · exact ⟨none, 0, by rw [hv, hz]⟩
  · exact ⟨_, cap, hv⟩
abbrev RL (w : World) (base : Nat) (v : Value) (xs : List S60) : Prop := Kd.R k60 60 w base (fun _ => True) v xs
theorem RL_at {w : World} {base : Nat} {v : Value} {xs : List S60} (h : RL w base v xs) (k : Nat) (hk : v.ownBlock = some k) : base ≤ k ∧ k < w.heap.size := by
  obtain ⟨inner, ho⟩ := Kd.R_own h
  exact ⟨own_base ho k hk, own_lt ho k hk⟩
theorem R_lst {w : World} {base : Nat} {A : Option Addr} {n c : Nat} {xs : List S60} (h : RL w base (.slice A n c) xs) : LstP w (.slice A n c) (xs.map toRw) := by
  obtain ⟨hn, hnc, hC⟩ := Kd.R_reads' h
  obtain ⟨inner, ho⟩ := Kd.R_own h
  obtain ⟨hlen, ⟨hv, hz⟩ | ⟨g, cap, cur, hv, hg, hc, hnc2, hm, hs, ht⟩⟩ := ho
  · left
    exact ⟨by rw [List.eq_nil_of_length_eq_zero hz]; rfl, hv⟩
  · right
    simp only [Value.slice.injEq] at hv
    obtain ⟨e1, e2, e3⟩ := hv
    refine ⟨g, c, cur, by rw [List.length_map, e1, hn], by rw [List.length_map]; omega, hc, fun j hj k u hu => ?_⟩
    rw [List.length_map] at hj
    obtain ⟨ad, ha, q0, q1, q2, q3⟩ := at_T60 hC (j : Int) (by omega) (by omega)
    rw [e1] at ha
    simp only [Option.some.injEq] at ha
    subst ha
    rw [Int.toNat_natCast] at q0 q1 q2 q3
    have hx : (xs.map toRw)[j]! = toRw (rd_T60 xs (j : Int)) := by
      rw [getElem!_pos _ j (by rw [List.length_map]; exact hj), List.getElem_map]
      unfold rd_T60
      rw [Int.toNat_natCast, List.getD_eq_getElem?_getD, List.getElem?_eq_getElem hj]
      rfl
    rw [hx] at hu
    have hb : ∀ q, w.cell? ⟨g, q, none⟩ = cur[q]? := fun q => blk_cell hc q
    have ha0 : ((⟨g, 0, none⟩ : Addr).add (j * 4)) = ⟨g, j * 4, none⟩ := by rw [add_at, Nat.zero_add]
    rw [ha0] at q0 q1 q2 q3
    match k, hu with
    | 0, hu => rw [← hb]; exact q0.trans hu
    | 1, hu => rw [← hb]; exact q1.trans hu
    | 2, hu => rw [← hb]; exact q2.trans hu
    | 3, hu => rw [← hb]; exact q3.trans hu
    | k + 4, hu => simp [enc] at hu
theorem BusS.told {w : World} {lo hi r : Nat} {ds : List Bd} {F : List Fl} {cnt : Int} (h : BusS w lo hi r ds F cnt) (f : Fl) (ht : F.any (fun g => decide (g.at_ = f.at_)) = true) : BusS w lo hi r ds (F ++ [f]) cnt := by
  obtain ⟨rv, fm, g1, g2, g3, es, ck, g4, g5⟩ := h.head
  refine ⟨⟨rv, fm, g1, g2, g3, es, ck, g4, g5.1, fun k => ?_⟩, h.rr, h.top, h.dev, h.apart, h.few⟩
  rw [g5.2 k, List.find?_append]
  cases hF : F.find? (fun f => decide (f.at_ = k)) with
  | some x => rfl
  | none =>
    by_cases hk : f.at_ = k
    · obtain ⟨x, hx, hxk⟩ := List.any_eq_true.1 ht
      have := List.find?_eq_none.1 hF x hx
      simp only [decide_eq_true_eq] at hxk this
      exact absurd (hxk.trans hk) this
    · simp [hk]
theorem BusS.remap {w w' : World} {lo hi r fm ck' : Nat} {ds : List Bd} {F F' : List Fl} {cnt : Int} {rv : Value} {es' : Array MapEntry} (h : BusS w lo hi r ds F cnt) (hr : w.heap[r]? = some (.cells #[rv, .map (some fm), .int .i64 cnt] 75 (0, 0))) (hf : Fr (fun k => k = fm) w w') (hm : w'.heap[fm]? = some (.map es' ck')) (hF : MapF es' F') : BusS w' lo hi r ds F' cnt := by
  obtain ⟨rv1, fm1, g1, g2, g3, es, ck, g4, g5⟩ := h.head
  have e := g1.symm.trans hr
  simp only [Option.some.injEq, Obj.cells.injEq, Array.mk.injEq, List.cons.injEq, Value.map.injEq, and_true] at e
  obtain ⟨rfl, rfl⟩ := e
  have hne : ∀ k cs t, w.heap[k]? = some (.cells cs t (0, 0)) → k ≠ fm1 := fun k cs t hk e => by rw [e, g4] at hk; cases hk
  refine ⟨⟨rv1, fm1, hf.blk g1 (hne r _ _ g1), g2.keep fun b cs hb hc => hf.blk hc (hne b _ _ hc), g3, es', ck', hm, hF⟩, h.rr, Nat.le_trans h.top hf.size, fun j hj => ?_, h.apart, h.few⟩
  obtain ⟨k1, k2, k3, k4⟩ := h.dev j hj
  obtain ⟨_, _, _, q1⟩ := ring_head k1.ring
  obtain ⟨_, q2⟩ := ring_row k1.ring
  obtain ⟨_, _, _, _, _, _, q3⟩ := ring_chan k1.ring
  refine ⟨k1.keep hf (hne _ _ _ k1.head) (hne _ _ _ q1) (hne _ _ _ q2) (fun e => by rw [e, g4] at q3; cases q3) (fun m hm2 => ?_), k2, k3, k4⟩
  rcases k1.list with ⟨_, e⟩ | ⟨m', cap, cs, e, _, e2, _⟩
  · rw [e] at hm2
    simp [Value.ownBlock] at hm2
  · rw [e] at hm2
    simp only [Value.ownBlock, Option.some.injEq] at hm2
    exact hne m _ _ (hm2 ▸ e2)
/-- While the devices are made. -/
structure Bld (w w' : World) (r : Nat) (ds : List Bd) : Prop where
  bus : BusS w' w.heap.size w'.heap.size r ds [] 0
  row : ∃ rv fm, w'.heap[r]? = some (.cells #[rv, .map (some fm), .int .i64 0] 75 (0, 0)) ∧ w'.ownsRow w.heap.size 77 1 rv ds.length (ds.map ptrD)
  bel : Below w.heap.size w w'
set_option maxHeartbeats 16000000 in
set_option maxRecDepth 100000 in
theorem new_ (w : World) (A : Option Addr) (c : Nat) (ms : List S35) (B : Option Addr) (c1 : Nat) (fs : List S54) (hA : Kd.C k35 w A ms.length ms) (hc : ms.length ≤ c) (hB : Kd.C k54 w B fs.length fs) (hc1 : fs.length ≤ c1) (hg : GoodM ms fs) : Calls Try.prog 9 #[.slice A ms.length c, .slice B fs.length c1] w fun e w' => ∃ r hi ds, e = .returned (.tuple #[.pointer (some ⟨r, 0, none⟩), .int .i64 0]) ∧ BusS w' w.heap.size hi r ds (fs.map mkFl) 0 ∧ ds.map (·.x) = ms.map mkDv ∧ Below w.heap.size w w' := by
  have HG := Aside0.mk hg
  have HA := Aside0.mk hA
  have HB := Aside0.mk hB
  have hm8 := hg.m8
  have hf12 := hg.f12
  clear hg hA hB
  have hd0 : decide ((ms.length : Int) > 8) = false := decide_eq_false (by omega)
  have hd1 : decide ((fs.length : Int) > 4096) = false := decide_eq_false (by omega)
  have hn0 : ¬ 8 < ms.length := by omega
  have hn1 : ¬ 4096 < fs.length := by omega
  have hmm : ∀ W, (Instr.makeMap 72 none).run Try.prog W = .ok (.map (some W.heap.size)) (W.alloc (.map #[] 0)) := fun W => rfl
  go_enter Try.func9, Try.ntmps9
  go_upto_region 2 with fail
  obtain ⟨w1, hw1⟩ : ∃ w1, w1 = (w.alloc (.map #[] 0)).alloc (.cells #[.slice none 0 0, .map (some w.heap.size), .int .i64 0] 75) := ⟨_, rfl⟩
  rw [← hw1]
  have hb1 : Below w.heap.size w w1 := hw1 ▸ below_alloc (below_alloc (Below.refl _ _) _) _
  have hm1 : w1.heap[w.heap.size]? = some (.map #[] 0) := by rw [hw1]; exact (two w _ _).1
  have hx1 : w1.heap[w.heap.size + 1]? = some (.cells #[.slice none 0 0, .map (some w.heap.size), .int .i64 0] 75 (0, 0)) := by rw [hw1]; exact (two w _ _).2
  have hz1 : w1.heap.size = w.heap.size + 2 := by rw [hw1]; show ((w.heap.push _).push _).size = _; simp
  obtain ⟨r, hr⟩ : ∃ r, r = w.heap.size + 1 := ⟨_, rfl⟩
  rw [← hr] at hx1 ⊢
  have HBL := Aside0.mk (show Bld w w1 r [] from by
    refine ⟨⟨⟨_, _, hx1, .inl ⟨rfl, rfl⟩, ⟨Nat.le_refl _, by omega⟩, #[], 0, hm1, ⟨fun e he => by simp at he, fun k => rfl⟩⟩, ⟨by omega, by omega⟩, Nat.le_refl _, fun j hj => absurd hj (Nat.not_lt_zero j), fun a b ha => absurd ha (Nat.not_lt_zero a), Nat.zero_le _⟩, ⟨_, _, hx1, World.ownsRow_nil _ _ _ _⟩, hb1⟩)
  clear hmm hb1 hm1 hx1 hz1 hr hw1
  go_wp2_with fail
  refine Cu.wp_loop (Cu.rep 8 Cu.f (Cu.rep 3 Cu.t (Cu.rep 17 Cu.f (Cu.rep 39 Cu.t (Cu.rep 45 Cu.f []))))) 42 (fun kq us_ w' => ∃ (i : Nat) (ds : List Bd), (Cu.nth us_ 3) = .int .i64 (i : Int) ∧ Aside0 (kq + i = ms.length) ∧ Aside0 (Bld w w' r ds) ∧ Aside0 (ds.map (·.x) = (ms.take i).map mkDv)) ms.length ?_ (by kernel_rfl) (by kernel_rfl) ?_
  · try dsimp only [Cu.pick, Cu.rep, Cu.nth]
    exact ⟨0, [], rfl, ⟨rfl⟩, HBL, ⟨rfl⟩⟩
  · clear HBL
    intro gk wr u8 u9 u10 u28 u29 u30 u31 u32 u33 u34 u35 u36 u37 u38 u39 u40 u41 u42 u43 u44 u45 u46 u47 u48 u49 u50 u51 u52 u53 u54 u55 u56 u57 u58 u59 u60 u61 u62 u63 u64 u65 u66
    try dsimp only [Cu.over, Cu.rep, Cu.nth]
    intro hrel _ _ _ _
    obtain ⟨i, ds, rfl, HK, HBL, HDS⟩ := hrel
    by_cases hi : i < ms.length
    · have hid : decide ((i : Int) < (ms.length : Int)) = true := decide_eq_true (by omega)
      have hii : (i : Int) < (ms.length : Int) := by omega
      obtain ⟨a0, A2, c2, rfl, m0, m1, m2, hc2, hK2⟩ := at_T35 (Kd.C_below HA.out HBL.out.bel) (i : Int) (by omega) hii
      rw [Int.toNat_natCast] at m0 m1 m2
      obtain ⟨M, hM⟩ : ∃ M, M = rd_T35 ms (i : Int) := ⟨_, rfl⟩
      rw [← hM] at m0 m1 m2 hc2 hK2
      have HM := Aside0.mk hM
      have HK2 := Aside0.mk hK2
      have hMl : M.f2.length ≤ 4096 := by rw [hM]; exact HG.out.list i hi
      have hgo : ∃ k, bus_goodModel.f k M.f0 M.f1 M.f2 = some true := by rw [hM]; exact HG.out.good i hi
      obtain ⟨kg, hkg⟩ := hgo
      have HKG := Aside0.mk hkg
      have hfi : ¬ fi ds M.f0 < ds.length := by
        unfold fi
        rw [List.findIdx_lt_length]
        rintro ⟨x, hx, hxa⟩
        obtain ⟨j, hj, rfl⟩ := List.mem_iff_getElem.1 hx
        have hl := congrArg List.length HDS.out
        rw [List.length_map, List.length_map, List.length_take] at hl
        have h1 : (ds.map (·.x))[j]? = ((ms.take i).map mkDv)[j]? := by rw [HDS.out]
        rw [List.getElem?_map, List.getElem?_map, List.getElem?_eq_getElem hj, List.getElem?_take, if_pos (by omega), List.getElem?_eq_getElem (show j < ms.length by omega)] at h1
        simp only [Option.map_some, Option.some.injEq] at h1
        have h2 := HG.out.apart i j (by omega) hi
        simp only [decide_eq_true_eq] at hxa
        rw [h1] at hxa
        apply h2
        rw [← hM, ← hxa]
        unfold rd_T35
        rw [Int.toNat_natCast, List.getD_eq_getElem?_getD, List.getElem?_eq_getElem (show j < ms.length by omega)]
        rfl
      have HFP := Aside0.mk (show ptrAt ds (fi ds M.f0) = .pointer none from by unfold ptrAt; rw [if_neg hfi])
      clear hM hK2 hkg hfi
      go_upto_region 7 with fail
      obtain ⟨w2, hw2⟩ : ∃ w2, w2 = wr.alloc (.cells #[.int .i64 M.f0, .int .i64 M.f1, .slice A2 M.f2.length c2] 35) := ⟨_, rfl⟩
      rw [← hw2]
      have hb2 : Below wr.heap.size wr w2 := hw2 ▸ below_alloc (Below.refl _ _) _
      have hx2 : w2.heap[wr.heap.size]? = some (.cells #[.int .i64 M.f0, .int .i64 M.f1, .slice A2 M.f2.length c2] 35 (0, 0)) := by rw [hw2]; exact blk_new wr _
      obtain ⟨xm, hxm⟩ : ∃ xm, xm = wr.heap.size := ⟨_, rfl⟩
      rw [← hxm] at hx2 ⊢
      have HXM := Aside0.mk hxm
      have HX2 := Aside0.mk hx2
      have HB2 := Aside0.mk hb2
      have HFI := Aside0.mk (show ∀ W, BusS W w.heap.size wr.heap.size r ds [] 0 → Calls Try.prog 31 #[.pointer (some ⟨r, 0, none⟩), .int .i64 M.f0] W fun e w' => e = .returned (.pointer none) ∧ w' = W from fun W h => (find_ W _ _ _ _ _ _ h M.f0).mono fun e w' hh => by rw [HFP.out] at hh; exact hh)
      have HGO := Aside0.mk (bus_goodModel.calls kg M.f0 M.f1 A2 c2 M.f2 true w2 (Kd.C_below HK2.out hb2) hc2 HKG.out)
      have c0 : w2.cell? ⟨xm, 0, none⟩ = some (.int .i64 M.f0) := (blk_cell hx2 0).trans rfl
      have c1' : w2.cell? ⟨xm, 1, none⟩ = some (.int .i64 M.f1) := (blk_cell hx2 1).trans rfl
      have c2' : w2.cell? ⟨xm, 2, none⟩ = some (.slice A2 M.f2.length c2) := (blk_cell hx2 2).trans rfl
      have hxl : xm < w2.heap.size := (Array.getElem?_eq_some_iff.1 hx2).1
      clear hw2 hb2 hx2 hxm m0 m1 m2
      go_upto_region 9 with (first | (go_at_call 30; with_reducible refine HGO.out.mono ?_; rintro e w3 ⟨rfl, hb3⟩; have HB3 := Aside0.mk hb3; have d0 := (hb3.cell (p := ⟨xm, 0, none⟩) hxl).trans c0; clear hb3) | (go_at_call 31; with_reducible refine (HFI.out _ ((HBL.out.bus.below HB2.out).below HB3.out)).mono ?_; rintro e w' ⟨rfl, hw'⟩; subst hw'))
      have hx3 := (HB3.out.block xm (Array.getElem?_eq_some_iff.1 HX2.out).1).trans HX2.out
      have hb3 : Below wr.heap.size wr w' := by
        have h2 := HB2.out
        have h3 := HB3.out
        exact ⟨h3.os.trans h2.os, h3.tape.trans h2.tape, h3.output.trans h2.output, Nat.le_trans h2.size h3.size, fun k hk => (h3.block k (Nat.lt_of_lt_of_le hk h2.size)).trans (h2.block k hk)⟩
      have HWS := Aside0.mk hb3.size
      have HXS := Aside0.mk (show xm < w'.heap.size from (Array.getElem?_eq_some_iff.1 hx3).1)
      clear c0 c1' c2' d0 hxl HGO HFI HX2 HB2 HB3 HKG HFP
      have HX3 := Aside0.mk hx3
      have HB3 := Aside0.mk hb3
      have HNQ := Aside0.mk (newQ w')
      clear hx3 hb3
      go_upto_region 10 with (go_at_call 32; with_reducible refine HNQ.out.mono ?_; rintro e w4 ⟨g, b, cc, rfl, hq4, hb4, hg4, hbb4, hc4⟩; have HQ4 := Aside0.mk hq4; have HB4 := Aside0.mk hb4; have HG4 := Aside0.mk (And.intro hg4 (And.intro hbb4 hc4)); clear hq4 hb4 hg4 hbb4 hc4)
      have hx4 := (HB4.out.block xm (Array.getElem?_eq_some_iff.1 HX3.out).1).trans HX3.out
      have hb4 : Below wr.heap.size wr w4 := by
        have h2 := HB3.out
        have h3 := HB4.out
        exact ⟨h3.os.trans h2.os, h3.tape.trans h2.tape, h3.output.trans h2.output, Nat.le_trans h2.size h3.size, fun k hk => (h3.block k (Nat.lt_of_lt_of_le hk h2.size)).trans (h2.block k hk)⟩
      have HX4 := Aside0.mk hx4
      have HBB4 := Aside0.mk hb4
      have c2' : w4.cell? ⟨xm, 2, none⟩ = some (.slice A2 M.f2.length c2) := (blk_cell hx4 2).trans rfl
      have hfz2 := row_frozen hx4 2
      have hlm : (([] : List S60).length + M.f2.length) * 32 ≤ 140737488355328 := by simp; omega
      have hfar : w.heap.size ≤ w4.heap.size := Nat.le_trans HBL.out.bel.size hb4.size
      have hxl : xm < w4.heap.size := (Array.getElem?_eq_some_iff.1 hx4).1
      clear HX3 HB3 HNQ hx4
      go_upto_region 11 with (at_builtin; refine Kd.R_append_rows k60 (w0 := w4) w4.heap.size rfl (.const (.slice none 0 0)) (.tmp 47) 33 60 (.agg #[.int .i64 0, .int .i64 0, .int .i64 0, .int .i64 0]) 32 rfl Try.underlying33 infoR rfl (by decide) (by omega) (.slice none 0 0) ([]) M.f2 A2 _ c2 (fun _ => True) (fun _ => False) rfl rfl ?aO ?aR (fun _ _ h => k60_KM h) (fun _ h => h.elim) ?aF ?aB ?aS ?aL ?_; (case aO => exact Kd.R_nil _ _ _ _ _); (case aR => exact Kd.C_below HK2.out hb4); (case aF => exact (fun _ _ => trivial)); (case aB => exact Below.refl _ _); (case aS => exact Nat.le_refl _); (case aL => exact hlm); intro v5 w5 ho hb hg hat; obtain ⟨A5, c5, hv5⟩ := Kd.R_slice ho; subst hv5; have HO5 := Aside0.mk ho; have HB5 := Aside0.mk hb; have e2 := (hb.cell (p := ⟨xm, 2, none⟩) hxl).trans c2'; have f2 := row_frozen ((hb.block xm hxl).trans HX4.out) 2; clear ho hb hg hat)
      obtain ⟨w6, hw6⟩ : ∃ w6, w6 = w5.setCell ⟨xm, 2, none⟩ (.slice A5 M.f2.length c5) := ⟨_, rfl⟩
      rw [← hw6]
      have hxw : wr.heap.size ≤ xm := by rw [HXM.out]; exact Nat.le_refl _
      have hx6 : w6.heap[xm]? = some (.cells #[.int .i64 M.f0, .int .i64 M.f1, .slice A5 M.f2.length c5] 35 (0, 0)) := by rw [hw6]; exact put_at ((HB5.out.block xm hxl).trans HX4.out) 2 _
      have hgw : ∀ k, w'.heap.size ≤ k → k ≠ xm := fun k hk e => by have := (Array.getElem?_eq_some_iff.1 HX4.out).1; have := HXS.out; omega
      have hf56 : Fr (fun k => k = xm) w5 w6 := by rw [hw6]; exact Fr.put1 _ _ rfl
      have hring6 : RingQ w6 g b cc [] := (HQ4.out.below HB5.out).fr hf56 (hgw g HG4.out.1) (hgw b HG4.out.2.1) (hgw cc HG4.out.2.2)
      have hlst6 : LstP w6 (.slice A5 M.f2.length c5) (M.f2.map toRw) := (R_lst HO5.out).keep fun m hm => hf56.block m (RL_at HO5.out m hm).2 (fun e => by have := (RL_at HO5.out m hm).1; omega)
      have hown6 : ∀ m, (Value.slice A5 M.f2.length c5).ownBlock = some m → w4.heap.size ≤ m ∧ m < w6.heap.size := fun m hm => ⟨(RL_at HO5.out m hm).1, Nat.lt_of_lt_of_le (RL_at HO5.out m hm).2 hf56.size⟩
      have hb6 : Below wr.heap.size wr w6 := by
        have h2 := HBB4.out
        have h3 := HB5.out
        rw [hw6]
        exact (show Below wr.heap.size wr w5 from ⟨h3.os.trans h2.os, h3.tape.trans h2.tape, h3.output.trans h2.output, Nat.le_trans h2.size h3.size, fun k hk => (h3.block k (Nat.lt_of_lt_of_le hk h2.size)).trans (h2.block k hk)⟩).setCell hxw _
      have hs4 : w4.heap.size ≤ w6.heap.size := Nat.le_trans HB5.out.size hf56.size
      have hrold := HQ4.out.old
      obtain ⟨rv, fm, hh0, hown0⟩ := HBL.out.row
      have hh6 := (hb6.block r (Array.getElem?_eq_some_iff.1 hh0).1).trans hh0
      have hown6r := pw_own_below hown0 hb6
      obtain ⟨A6, c6, hrv⟩ := own_slice hown6r
      subst hrv
      have z0 : w6.cell? ⟨r, 0, none⟩ = some (.slice A6 ds.length c6) := (blk_cell hh6 0).trans rfl
      have z1 : w6.cell? ⟨xm, 0, none⟩ = some (.int .i64 M.f0) := (blk_cell hx6 0).trans rfl
      have z2 : w6.cell? ⟨xm, 1, none⟩ = some (.int .i64 M.f1) := (blk_cell hx6 1).trans rfl
      have z3 : w6.cell? ⟨xm, 2, none⟩ = some (.slice A5 M.f2.length c5) := (blk_cell hx6 2).trans rfl
      have HX6 := Aside0.mk hx6
      have HR6 := Aside0.mk hring6
      have HL6 := Aside0.mk hlst6
      have HOW6 := Aside0.mk hown6
      have HB6 := Aside0.mk hb6
      have HS4 := Aside0.mk (And.intro hs4 hrold)
      have HH6 := Aside0.mk hh6
      have HRW6 := Aside0.mk hown6r
      have hdl : ds.length = i := by
        have := congrArg List.length HDS.out
        rw [List.length_map, List.length_map, List.length_take] at this
        omega
      have hdl8 : (ds.length + 1) * 8 ≤ 140737488355328 := by omega
      have HDL := Aside0.mk (And.intro hdl hdl8)
      have HBS := Aside0.mk (show w.heap.size ≤ w6.heap.size from Nat.le_trans HBL.out.bel.size hb6.size)
      clear hw6 hxw hx6 hgw hf56 hring6 hlst6 hown6 hb6 hs4 hrold hh0 hown0 hh6 hown6r hdl hdl8 e2 f2 hlm hfar hxl hfz2 c2' HO5 HB5 HX4 HB4 HBB4 HQ4
      refine start_ (n := 17) (S := fun w' => w'.cell? ⟨r, 0, none⟩ = some (.slice A6 ds.length c6) ∧ w'.cell? ⟨xm, 0, none⟩ = some (.int .i64 M.f0) ∧ w'.cell? ⟨xm, 1, none⟩ = some (.int .i64 M.f1) ∧ w'.cell? ⟨xm, 2, none⟩ = some (.slice A5 M.f2.length c5)) (ds := [13, 16]) #[false, false, false, false, false, false, false, false, false, false, false, false, false, false, false, false, false] (by kernel_rfl) rfl rfl ⟨z0, z1, z2, z3⟩ (fun hHeld => ?_)
      refine pure_ (i := 0) (N := some 50) (v := ?_) (a' := ?_) #[true, false, false, false, false, false, false, false, false, false, false, false, false, false, false, false, false] rfl rfl (by kernel_rfl) (fun _ _ _ h => h) (Or.inl ⟨by rfl, ?_⟩) ?_ ?_
      rotate_left
      · intro w'
        go_simp
        with_reducible rfl
      rotate_left
      · simp only [Act.put, List.setIfInBounds_toArray, List.set_cons_zero, List.set_cons_succ, i64_w, i32_w]
        rfl
      refine pure_ (i := 1) (N := some 51) (v := ?_) (a' := ?_) #[true, true, false, false, false, false, false, false, false, false, false, false, false, false, false, false, false] rfl rfl (by kernel_rfl) (fun _ _ _ h => h) (Or.inl ⟨by rfl, ?_⟩) ?_ ?_
      rotate_left
      · intro w'
        go_simp
        with_reducible rfl
      rotate_left
      · simp only [Act.put, List.setIfInBounds_toArray, List.set_cons_zero, List.set_cons_succ, i64_w, i32_w]
        rfl
      refine pure_ (i := 2) (N := some 52) (v := ?_) (a' := ?_) #[true, true, true, false, false, false, false, false, false, false, false, false, false, false, false, false, false] rfl rfl (by kernel_rfl) (fun _ _ _ h => h) (Or.inl ⟨by rfl, ?_⟩) ?_ ?_
      rotate_left
      · intro w'
        go_simp
        with_reducible rfl
      rotate_left
      · simp only [Act.put, List.setIfInBounds_toArray, List.set_cons_zero, List.set_cons_succ, i64_w, i32_w]
        rfl
      refine pure_ (i := 3) (N := some 53) (v := ?_) (a' := ?_) #[true, true, true, true, false, false, false, false, false, false, false, false, false, false, false, false, false] rfl rfl (by kernel_rfl) (fun _ _ _ h => h) (Or.inl ⟨by rfl, ?_⟩) ?_ ?_
      rotate_left
      · intro w'
        go_simp
        with_reducible rfl
      rotate_left
      · simp only [Act.put, List.setIfInBounds_toArray, List.set_cons_zero, List.set_cons_succ, i64_w, i32_w]
        rfl
      refine pure_ (i := 6) (N := some 56) (v := ?_) (a' := ?_) #[true, true, true, true, false, false, true, false, false, false, false, false, false, false, false, false, false] rfl rfl (by kernel_rfl) (fun _ _ _ h => h) (Or.inl ⟨by rfl, ?_⟩) ?_ ?_
      rotate_left
      · intro w'
        go_simp
        with_reducible rfl
      rotate_left
      · simp only [Act.put, List.setIfInBounds_toArray, List.set_cons_zero, List.set_cons_succ, i64_w, i32_w]
        rfl
      refine pure_ (i := 9) (N := some 59) (v := ?_) (a' := ?_) #[true, true, true, true, false, false, true, false, false, true, false, false, false, false, false, false, false] rfl rfl (by kernel_rfl) (fun _ _ _ h => h) (Or.inl ⟨by rfl, ?_⟩) ?_ ?_
      rotate_left
      · intro w'
        go_simp
        with_reducible rfl
      rotate_left
      · simp only [Act.put, List.setIfInBounds_toArray, List.set_cons_zero, List.set_cons_succ, i64_w, i32_w]
        rfl
      refine take_ (i := 4) (N := some 54) (v := ?_) (a' := ?_) #[true, true, true, true, true, false, true, false, false, true, false, false, false, false, false, false, false] rfl rfl (by kernel_rfl) (fun _ _ _ h => h) (Or.inl ⟨by rfl, ?_⟩) hHeld ?_ ?_
      rotate_left
      · rintro w' ⟨s0, s1, s2, s3⟩
        go_simp
        with_reducible rfl
      rotate_left
      · simp only [Act.put, List.setIfInBounds_toArray, List.set_cons_zero, List.set_cons_succ, i64_w, i32_w]
        rfl
      refine take_ (i := 5) (N := some 55) (v := ?_) (a' := ?_) #[true, true, true, true, true, true, true, false, false, true, false, false, false, false, false, false, false] rfl rfl (by kernel_rfl) (fun _ _ _ h => h) (Or.inl ⟨by rfl, ?_⟩) hHeld ?_ ?_
      rotate_left
      · rintro w' ⟨s0, s1, s2, s3⟩
        go_simp
        with_reducible rfl
      rotate_left
      · simp only [Act.put, List.setIfInBounds_toArray, List.set_cons_zero, List.set_cons_succ, i64_w, i32_w]
        rfl
      refine take_ (i := 7) (N := some 57) (v := ?_) (a' := ?_) #[true, true, true, true, true, true, true, true, false, true, false, false, false, false, false, false, false] rfl rfl (by kernel_rfl) (fun _ _ _ h => h) (Or.inl ⟨by rfl, ?_⟩) hHeld ?_ ?_
      rotate_left
      · rintro w' ⟨s0, s1, s2, s3⟩
        go_simp
        with_reducible rfl
      rotate_left
      · simp only [Act.put, List.setIfInBounds_toArray, List.set_cons_zero, List.set_cons_succ, i64_w, i32_w]
        rfl
      refine pure_ (i := 8) (N := some 58) (v := ?_) (a' := ?_) #[true, true, true, true, true, true, true, true, true, true, false, false, false, false, false, false, false] rfl rfl (by kernel_rfl) (fun _ _ _ h => h) (Or.inl ⟨by rfl, ?_⟩) ?_ ?_
      rotate_left
      · intro w'
        go_simp
        with_reducible rfl
      rotate_left
      · simp only [Act.put, List.setIfInBounds_toArray, List.set_cons_zero, List.set_cons_succ, i64_w, i32_w]
        rfl
      refine pure_ (i := 10) (N := some 60) (v := ?_) (a' := ?_) #[true, true, true, true, true, true, true, true, true, true, true, false, false, false, false, false, false] rfl rfl (by kernel_rfl) (fun _ _ _ h => h) (Or.inl ⟨by rfl, ?_⟩) ?_ ?_
      rotate_left
      · intro w'
        go_simp
        with_reducible rfl
      rotate_left
      · simp only [Act.put, List.setIfInBounds_toArray, List.set_cons_zero, List.set_cons_succ, i64_w, i32_w]
        rfl
      refine one_ (i := 11) (N := some 61) #[true, true, true, true, true, true, true, true, true, true, true, true, false, false, false, false, false] rfl rfl (by kernel_rfl) (by decide) (fun K hK => ?_)
      refine value_ (w1 := ?_) (v := ?_) (by rfl) rfl ?_ ?_
      rotate_left 2
      · go_simp
        constructor
        · rfl
        · rfl
      refine hK.out _ _ ⟨(World.cell?_alloc_lt _ _ _ (World.block_lt_of_cell? _ _ hHeld.1)).trans hHeld.1, (World.cell?_alloc_lt _ _ _ (World.block_lt_of_cell? _ _ hHeld.2.1)).trans hHeld.2.1, (World.cell?_alloc_lt _ _ _ (World.block_lt_of_cell? _ _ hHeld.2.2.1)).trans hHeld.2.2.1, (World.cell?_alloc_lt _ _ _ (World.block_lt_of_cell? _ _ hHeld.2.2.2)).trans hHeld.2.2.2⟩ (fun hHeld => ?_)
      clear hK K
      refine norm_ (a' := ?_) ?_ ?_
      rotate_left
      · show Act.put _ (some 61) _ = _
        simp only [Act.put, List.setIfInBounds_toArray, List.set_cons_zero, List.set_cons_succ, i64_w, i32_w]
        rfl
      refine one_ (i := 12) (N := some 62) #[true, true, true, true, true, true, true, true, true, true, true, true, true, false, false, false, false] rfl rfl (by kernel_rfl) (by decide) (fun K hK => ?_)
      refine value_ (w1 := ?_) (v := ?_) (by rfl) rfl ?_ ?_
      rotate_left 2
      · go_simp
        constructor
        · rfl
        · rfl
      refine hK.out _ _ ⟨(World.cell?_alloc_lt _ _ _ (World.block_lt_of_cell? _ _ hHeld.1)).trans hHeld.1, (World.cell?_alloc_lt _ _ _ (World.block_lt_of_cell? _ _ hHeld.2.1)).trans hHeld.2.1, (World.cell?_alloc_lt _ _ _ (World.block_lt_of_cell? _ _ hHeld.2.2.1)).trans hHeld.2.2.1, (World.cell?_alloc_lt _ _ _ (World.block_lt_of_cell? _ _ hHeld.2.2.2)).trans hHeld.2.2.2⟩ (fun hHeld => ?_)
      clear hK K
      refine norm_ (a' := ?_) ?_ ?_
      rotate_left
      · show Act.put _ (some 62) _ = _
        simp only [Act.put, List.setIfInBounds_toArray, List.set_cons_zero, List.set_cons_succ, i64_w, i32_w]
        rfl
      refine last_ (i := 13) (N := some 63) #[true, true, true, true, true, true, true, true, true, true, true, true, true, true, false, false, false] rfl rfl (by kernel_rfl) (by decide) (fun K hK => ?_)
      obtain ⟨wd, hwd⟩ : ∃ wd, wd = w6.alloc (.cells #[.int .i64 M.f0, .int .i64 M.f1, .slice A5 M.f2.length c5, .int .i64 M.f0, .bool false, .int .i64 1, .int .i64 0, .int .i64 0, .int .i64 0, .int .i64 0, .pointer (some ⟨g, 0, none⟩)] 83) := ⟨_, rfl⟩
      have hbd : Below w6.heap.size w6 wd := hwd ▸ below_alloc (Below.refl _ _) _
      have hxd : wd.heap[w6.heap.size]? = some (.cells #[.int .i64 M.f0, .int .i64 M.f1, .slice A5 M.f2.length c5, .int .i64 M.f0, .bool false, .int .i64 1, .int .i64 0, .int .i64 0, .int .i64 0, .int .i64 0, .pointer (some ⟨g, 0, none⟩)] 83 (0, 0)) := by rw [hwd]; exact blk_new w6 _
      have hwdd : ∀ o : Obj, ((w6.alloc (.cells #[.int .i64 M.f0, .int .i64 M.f1, .slice A5 M.f2.length c5, .int .i64 M.f0, .bool false, .int .i64 1, .int .i64 0, .int .i64 0, .int .i64 0, .int .i64 0, .pointer (some ⟨g, 0, none⟩)] 83)).alloc o).drew = (wd.drew).alloc o := fun o => by rw [hwd]; rfl
      rw [hwdd]
      obtain ⟨xd, hxde⟩ : ∃ xd, xd = w6.heap.size := ⟨_, rfl⟩
      rw [← hxde] at hxd ⊢
      have HXD := Aside0.mk hxd
      have HBD := Aside0.mk hbd
      have HXDE := Aside0.mk hxde
      have hzz : (wd.drew).heap.size = wd.heap.size := rfl
      refine step_append_cells (w0 := wd.drew) w.heap.size (by rfl) (.tmp 54) (.tmp 62) 73 77 (.pointer none) 1 8 rfl Try.underlying73 infoP rfl (by decide) (by omega) (.slice A6 ds.length c6) ds.length (ds.map ptrD) [.pointer (some ⟨xd, 0, none⟩)] rfl ?hx rfl ?h1 ?hO (Below.refl _ _) ?hS HDL.out.2 ?_
      · show Value.slice (some ⟨xd + 1, 0, none⟩) 1 1 = .slice (some ⟨(wd.drew).heap.size, 0, none⟩) 1 1
        rw [hzz, hwd, hxde]
        show _ = Value.slice (some ⟨(w6.heap.push _).size, 0, none⟩) 1 1
        rw [Array.size_push]
      · intro u hu
        rw [List.mem_singleton] at hu
        subst hu
        rfl
      · exact pw_own_below HRW6.out (show Below w6.heap.size w6 wd.drew from ⟨hbd.os, hbd.tape, hbd.output, hbd.size, hbd.block⟩)
      · exact Nat.le_trans HBS.out hbd.size
      intro v7 w7 hown hb hg hat
      obtain ⟨A7, c7, hv7⟩ := own_slice hown
      subst hv7
      have HOWN := Aside0.mk hown
      have HG7 := Aside0.mk hg
      have HAT := Aside0.mk hat
      have hr7 : w7.heap[r]? = some (.cells #[.slice A6 ds.length c6, .map (some fm), .int .i64 0] 75 (0, 0)) := by
        refine (hg.block r ?_ ?_).trans ((hbd.block r (Array.getElem?_eq_some_iff.1 HH6.out).1).trans HH6.out)
        · exact Nat.lt_of_lt_of_le (Array.getElem?_eq_some_iff.1 HH6.out).1 hbd.size
        · intro e
          obtain ⟨cs, hcs⟩ := own_typed HRW6.out r e.symm
          have := hcs.symm.trans HH6.out
          simp at this
      have HR7 := Aside0.mk hr7
      have y0 : w7.cell? ⟨r, 0, none⟩ = some (.slice A6 ds.length c6) := (blk_cell hr7 0).trans rfl
      have g0 := row_frozen hr7 0
      clear hown hb hg hat hr7 hwd hbd hxd hwdd hxde hzz
      refine hK.out _ _ ?_
      clear hK K
      refine norm_ (a' := ?_) ?_ ?_
      rotate_left
      · show Act.put _ (some 63) _ = _
        simp only [Act.put, List.setIfInBounds_toArray, List.set_cons_zero, List.set_cons_succ, i64_w, i32_w]
        rfl
      refine pure_ (i := 14) (N := some 64) (v := ?_) (a' := ?_) #[true, true, true, true, true, true, true, true, true, true, true, true, true, true, true, false, false] rfl rfl (by kernel_rfl) (fun _ _ _ h => h) (Or.inl ⟨by rfl, ?_⟩) ?_ ?_
      rotate_left
      · intro w'
        go_simp
        with_reducible rfl
      rotate_left
      · simp only [Act.put, List.setIfInBounds_toArray, List.set_cons_zero, List.set_cons_succ, i64_w, i32_w]
        rfl
      refine pure_ (i := 15) (N := some 65) (v := ?_) (a' := ?_) #[true, true, true, true, true, true, true, true, true, true, true, true, true, true, true, true, false] rfl rfl (by kernel_rfl) (fun _ _ _ h => h) (Or.inl ⟨by rfl, ?_⟩) ?_ ?_
      rotate_left
      · intro w'
        go_simp
        with_reducible rfl
      rotate_left
      · simp only [Act.put, List.setIfInBounds_toArray, List.set_cons_zero, List.set_cons_succ, i64_w, i32_w]
        rfl
      refine last_ (i := 16) (N := none) #[true, true, true, true, true, true, true, true, true, true, true, true, true, true, true, true, true] rfl rfl (by kernel_rfl) (by decide) (fun K hK => ?_)
      refine skip_ (w1 := ?_) (by rfl) rfl ?_ ?_
      rotate_left
      · go_simp
        rfl
      refine hK.out _ _ ?_
      clear hK K
      refine done_ (by kernel_rfl) ?_

      obtain ⟨w8, hw8⟩ : ∃ w8, w8 = w7.setCell ⟨r, 0, none⟩ (.slice A7 (ds.length + 1) c7) := ⟨_, rfl⟩
      rw [← hw8]
      obtain ⟨rv0, fm0, hh0, hown0⟩ := HBL.out.row
      obtain ⟨rv1, fm1, hh1, hrp1, hfm1, es1, ck1, hes1, hmf1⟩ := HBL.out.bus.head
      have e1 := hh1.symm.trans hh0
      simp only [Option.some.injEq, Obj.cells.injEq, Array.mk.injEq, List.cons.injEq, Value.map.injEq, and_true] at e1
      obtain ⟨e1a, e1b⟩ := e1
      have e2 := HH6.out.symm.trans ((HB6.out.block r (Array.getElem?_eq_some_iff.1 hh0).1).trans hh0)
      simp only [Option.some.injEq, Obj.cells.injEq, Array.mk.injEq, List.cons.injEq, Value.map.injEq, and_true] at e2
      obtain ⟨e2a, e2b⟩ := e2
      have hnd : ∀ k, some k = (Value.slice A6 ds.length c6).ownBlock → k < wr.heap.size ∧ ∃ cs, wr.heap[k]? = some (.cells cs 77 (0, 0)) := fun k hk => by
        rw [e2a] at hk
        exact ⟨own_lt hown0 k hk.symm, own_typed hown0 k hk.symm⟩
      have hSlt : ∀ k, (k = r ∨ some k = (Value.slice A6 ds.length c6).ownBlock) → k < wr.heap.size := fun k hk => by
        rcases hk with e | e
        · rw [e]; exact (Array.getElem?_eq_some_iff.1 hh0).1
        · exact (hnd k e).1
      have hfd : Fr (fun k => k = r ∨ some k = (Value.slice A6 ds.length c6).ownBlock) w6 wd.drew := (Fr.of_below HBD.out).drewN 1
      have hfr : Fr (fun k => k = r ∨ some k = (Value.slice A6 ds.length c6).ownBlock) w6 w8 := by
        rw [hw8]
        exact (hfd.trans ((Fr.of_grown HG7.out).mono fun k hk => .inr hk)).put _ _ (.inl rfl)
      have hfw : Fr (fun k => k = r ∨ some k = (Value.slice A6 ds.length c6).ownBlock) wr w8 := (Fr.of_below HB6.out).trans hfr
      have hr7o : ∀ k, (Value.slice A7 (ds.length + 1) c7).ownBlock = some k → k ≠ r := fun k hk e => by
        obtain ⟨cs, hcs⟩ := own_typed HOWN.out k hk
        rw [e, HR7.out] at hcs
        simp at hcs
      have hown8 : w8.ownsRow w.heap.size 77 1 (.slice A7 (ds.length + 1) c7) (ds ++ [(⟨⟨xd, g, b, cc⟩, .slice A5 M.f2.length c5, mkDv M⟩ : Bd)]).length ((ds ++ [(⟨⟨xd, g, b, cc⟩, .slice A5 M.f2.length c5, mkDv M⟩ : Bd)]).map ptrD) := by
        rw [List.map_append, List.length_append, hw8]
        exact own_move HOWN.out (fun k hk => Below.heap_setCell _ _ _ _ (by exact hr7o k hk))
      have hh8 : w8.heap[r]? = some (.cells #[.slice A7 (ds.length + 1) c7, .map (some fm), .int .i64 0] 75 (0, 0)) := by rw [hw8]; exact put_at HR7.out 0 _
      have hws := HWS.out
      have hg4 := HG4.out
      have h64 := HS4.out
      have hwr6 := HB6.out.size
      have h68 := hfr.size
      have hxd8 : xd < w8.heap.size := by
        have h1 := (Array.getElem?_eq_some_iff.1 HXD.out).1
        have h2 := HG7.out.size
        have h3 : w8.heap.size = w7.heap.size := by rw [hw8]; simp [World.setCell]
        have h4 : (wd.drew).heap.size = wd.heap.size := rfl
        omega
      have hxe := HXDE.out
      have hnS : ∀ k, wr.heap.size ≤ k → ¬ (k = r ∨ some k = (Value.slice A6 ds.length c6).ownBlock) := fun k hk e => by have := hSlt k e; omega
      have hd8 : DevQ w8 ⟨xd, g, b, cc⟩ (.slice A5 M.f2.length c5) (mkDv M) := by
        refine ⟨?_, HR6.out.fr hfr (hnS g (by omega)) (hnS b (by omega)) (hnS cc (by omega)), HL6.out.keep fun m hm => hfr.block m (HOW6.out m hm).2 (hnS m (by have := (HOW6.out m hm).1; omega)), fun e => by have := (HOW6.out b e).1; omega, fun m hm => Nat.lt_of_lt_of_le (HOW6.out m hm).2 h68⟩
        have h9 : w7.heap[xd]? = some (.cells ((mkDv M).cells (.slice A5 M.f2.length c5) g) 83 (0, 0)) := by
          refine (HG7.out.block xd (Array.getElem?_eq_some_iff.1 HXD.out).1 (fun e => ?_)).trans HXD.out
          have := (hnd xd e).1
          omega
        rw [hw8]
        exact (Below.heap_setCell _ _ _ _ (by show xd ≠ r; have := (Array.getElem?_eq_some_iff.1 hh0).1; omega)).trans h9
      have hdl := HDL.out.1
      have hk8 := HK.out
      have hbus : BusS w8 w.heap.size w8.heap.size r (ds ++ [(⟨⟨xd, g, b, cc⟩, .slice A5 M.f2.length c5, mkDv M⟩ : Bd)]) [] 0 := by
        refine HBL.out.bus.snoc hfw (fun k hk => ?_) (.slice A7 (ds.length + 1) c7) fm hh8 ⟨?_, es1, ck1, ?_, hmf1⟩ ⟨⟨xd, g, b, cc⟩, .slice A5 M.f2.length c5, mkDv M⟩ (own_row hown8 (fun k hk => ?_)) hd8 ⟨by show (0 : Int) ≤ 0; omega, by show (0 : Int) ≤ 256; omega, by show (0 : Int) ≤ 1; omega, by show (1 : Int) ≤ 256; omega, by show (M.f2.map toRw).length ≤ 4096; rw [List.length_map]; exact hMl, fun hz => by show 0 < _; omega⟩ hfw.size (Nat.le_refl _) HBL.out.bel.size (fun k hk => ?_) (fun m hm => ⟨by have := (HOW6.out m hm).1; omega, Nat.lt_of_lt_of_le (HOW6.out m hm).2 h68⟩) (by omega)
        · rcases hk with e | e
          · exact ⟨_, _, e ▸ hh0, .inl rfl⟩
          · obtain ⟨_, cs, hcs⟩ := hnd k e
            exact ⟨cs, _, hcs, .inr rfl⟩
        · rw [e2b, ← e1b]; exact hfm1
        · rw [e2b, ← e1b]; exact hes1
        · exact own_lt hown8 k hk
        · rcases hk with e | e | e | e
          · rw [e]; exact ⟨by show wr.heap.size ≤ xd; omega, hxd8⟩
          · rw [e]; exact ⟨by show wr.heap.size ≤ g; omega, by show g < _; omega⟩
          · rw [e]; exact ⟨by show wr.heap.size ≤ b; omega, by show b < _; omega⟩
          · rw [e]; exact ⟨by show wr.heap.size ≤ cc; omega, by show cc < _; omega⟩
      have hbel8 : Below w.heap.size w w8 := by
        have h2 := HBL.out.bel
        refine ⟨hfw.os.trans h2.os, hfw.tape.trans h2.tape, hfw.output.trans h2.output, Nat.le_trans h2.size hfw.size, fun k hk => (hfw.block k (Nat.lt_of_lt_of_le hk h2.size) ?_).trans (h2.block k hk)⟩
        rintro (e | e)
        · have := HBL.out.bus.rr.1
          omega
        · rw [e2a] at e
          have := own_base hown0 k e.symm
          omega
      have HBL8 := Aside0.mk (show Bld w w8 r (ds ++ [(⟨⟨xd, g, b, cc⟩, .slice A5 M.f2.length c5, mkDv M⟩ : Bd)]) from ⟨hbus, ⟨_, _, hh8, hown8⟩, hbel8⟩)
      have HDS8 := Aside0.mk (show (ds ++ [(⟨⟨xd, g, b, cc⟩, .slice A5 M.f2.length c5, mkDv M⟩ : Bd)]).map (·.x) = (ms.take (i + 1)).map mkDv from by
        rw [List.map_append, HDS.out, List.take_add_one, List.getElem?_eq_getElem hi, List.map_append]
        have : M = ms[i] := by rw [HM.out]; unfold rd_T35; rw [Int.toNat_natCast, List.getD_eq_getElem?_getD, List.getElem?_eq_getElem hi]; rfl
        rw [this]
        rfl)
      clear hbus hbel8 hd8 hnS hxd8 hh8 hown8 hr7o hfw hfr hfd hSlt hnd e2a e2b e1a e1b hh0 hown0 hh1 hrp1 hfm1 hes1 hmf1 hw8 hws hg4 h64 hwr6 h68 hxe y0 g0 hHeld z0 z1 z2 z3
      go_wp2
      refine Cu.handed (ms.length - (i + 1)) (by omega) (by assumption) ?_ (by kernel_rfl) (by kernel_rfl)
      try dsimp only [Cu.pick, Cu.rep, Cu.nth]
      exact ⟨i + 1, _, by rw [Int.natCast_add]; rfl, ⟨by omega⟩, HBL8, HDS8⟩
    · have hid : decide ((i : Int) < (ms.length : Int)) = false := decide_eq_false (by omega)
      have hil : ms.take i = ms := List.take_of_length_le (by have := HK.out; omega)
      have hds := HDS.out
      rw [hil] at hds
      have HDS2 := Aside0.mk hds
      have HS0 := Aside0.mk HBL.out.bus
      have HBE := Aside0.mk HBL.out.bel
      obtain ⟨H, hH⟩ : ∃ H, H = wr.heap.size := ⟨_, rfl⟩
      rw [← hH] at HS0
      clear hds hil HBL HDS hH
      go_wp2_with fail
      refine Cu.wp_loop (Cu.rep 12 Cu.f (Cu.rep 3 Cu.t (Cu.rep 54 Cu.f (Cu.rep 42 Cu.t (Cu.rep 1 Cu.f []))))) 45 (fun kq us_ w' => ∃ j : Nat, (Cu.nth us_ 3) = .int .i64 (j : Int) ∧ Aside0 (kq + j = fs.length) ∧ Aside0 (BusS w' w.heap.size H r ds ((fs.take j).map mkFl) 0) ∧ Aside0 (Below w.heap.size w w')) fs.length ?_ (by kernel_rfl) (by kernel_rfl) ?_
      · try dsimp only [Cu.pick, Cu.rep, Cu.nth]
        exact ⟨0, rfl, ⟨rfl⟩, HS0, HBE⟩
      · clear HS0 HBE
        intro gj wi v12 v13 v14 v69 v70 v71 v72 v73 v74 v75 v76 v77 v78 v79 v80 v81 v82 v83 v84 v85 v86 v87 v88 v89 v90 v91 v92 v93 v94 v95 v96 v97 v98 v99 v100 v101 v102 v103 v104 v105 v106 v107 v108 v109 v110
        try dsimp only [Cu.over, Cu.rep, Cu.nth]
        intro hrel _ _ _ _
        obtain ⟨j, rfl, HJ, HS, HBE⟩ := hrel
        by_cases hj : j < fs.length
        · have hjd : decide ((j : Int) < (fs.length : Int)) = true := decide_eq_true (by omega)
          have hjj : (j : Int) < (fs.length : Int) := by omega
          obtain ⟨b0, rfl, m0, m1, m2, m3⟩ := at_T54 (Kd.C_below HB.out HBE.out) (j : Int) (by omega) hjj
          rw [Int.toNat_natCast] at m0 m1 m2 m3
          obtain ⟨fl1, fl2, fl3, fl4⟩ := HG.out.flt j hj
          have hfl : fs[j]? = some (rd_T54 fs (j : Int)) := by
            unfold rd_T54
            rw [Int.toNat_natCast, List.getD_eq_getElem?_getD, List.getElem?_eq_getElem hj]
            rfl
          obtain ⟨G, hG⟩ : ∃ G, G = rd_T54 fs (j : Int) := ⟨_, rfl⟩
          rw [← hG] at m0 m1 m2 m3 fl1 fl2 fl3 fl4 hfl
          have q1 : decide (G.f0 < 1) = false := decide_eq_false (by omega)
          have q2 : decide (G.f1 < 1) = false := decide_eq_false (by omega)
          have q3 : decide (G.f1 > 3) = false := decide_eq_false (by omega)
          have q4 : decide (G.f2 < 0) = false := decide_eq_false (by omega)
          have q1' : ¬ G.f0 < 1 := by omega
          have q2' : ¬ G.f1 < 1 := by omega
          have q3' : ¬ G.f1 > 3 := by omega
          have q4' : ¬ G.f2 < 0 := by omega
          have HFL := Aside0.mk hfl
          clear hG hfl fl1 fl2 fl3 fl4
          go_upto_region 16 with fail
          obtain ⟨w2, hw2⟩ : ∃ w2, w2 = wi.alloc (.cells #[.int .i64 G.f0, .int .i64 G.f1, .int .i64 G.f2, .int .u8 G.f3] 54) := ⟨_, rfl⟩
          rw [← hw2]
          have hb2 : Below wi.heap.size wi w2 := hw2 ▸ below_alloc (Below.refl _ _) _
          have hx2 : w2.heap[wi.heap.size]? = some (.cells #[.int .i64 G.f0, .int .i64 G.f1, .int .i64 G.f2, .int .u8 G.f3] 54 (0, 0)) := by rw [hw2]; exact blk_new wi _
          obtain ⟨xf, hxf⟩ : ∃ xf, xf = wi.heap.size := ⟨_, rfl⟩
          rw [← hxf] at hx2 ⊢
          have hs2 := HS.out.below hb2
          have HBE2 := Aside0.mk (show Below w.heap.size w w2 from by
            have h2 := HBE.out
            exact ⟨hb2.os.trans h2.os, hb2.tape.trans h2.tape, hb2.output.trans h2.output, Nat.le_trans h2.size hb2.size, fun k hk => (hb2.block k (Nat.lt_of_lt_of_le hk h2.size)).trans (h2.block k hk)⟩)
          have HXF := Aside0.mk hx2
          have HS2 := Aside0.mk hs2
          obtain ⟨c0, c1', c2', c3'⟩ := box4 hx2
          clear hw2 hb2 hx2 hxf m0 m1 m2 m3 hs2
          go_upto_region 18 with fail
          obtain ⟨rv, fm, g1, g2, g3, es, ck, g4, g5⟩ := HS2.out.head
          have d1 : w2.cell? ⟨r, 1, none⟩ = some (.map (some fm)) := (blk_cell g1 1).trans rfl
          obtain ⟨Fj, hFj⟩ : ∃ Fj, Fj = (fs.take j).map mkFl := ⟨_, rfl⟩
          rw [← hFj] at g5 HS2
          have hFj1 : (fs.take (j + 1)).map mkFl = Fj ++ [mkFl G] := by rw [List.take_add_one, HFL.out, List.map_append, ← hFj]; rfl
          obtain ⟨told, htold⟩ : ∃ told, told = Fj.any (fun f => decide (f.at_ = G.f0)) := ⟨_, rfl⟩
          obtain ⟨h, hh⟩ : ∃ h, h = faultAt Fj G.f0 := ⟨_, rfl⟩
          have HLK := Aside0.mk (show ∀ W, W.heap[fm]? = some (.map es ck) → (Instr.lookup 72 (.map (some fm)) (.int .i64 G.f0) true).run Try.prog W = .ok (.tuple #[.agg #[.int .i64 h.at_, .int .i64 h.kind, .int .i64 h.idx, .int .u8 h.xor], .bool told]) W from fun W hW => by rw [hh, htold]; exact lookup_ok W fm ck es Fj hW g5 G.f0)
          have HFJ := Aside0.mk hFj1
          have HTO := Aside0.mk htold
          have HG5 := Aside0.mk g5
          have hg1l := (Array.getElem?_eq_some_iff.1 g1).1
          have HG1 := Aside0.mk (And.intro g1 (And.intro g3 g4))
          clear hFj hFj1 htold hh g5 g1 g2 g3
          refine start_ (n := 13) (S := fun w' => w'.cell? ⟨r, 1, none⟩ = some (.map (some fm)) ∧ w'.cell? ⟨xf, 0, none⟩ = some (.int .i64 G.f0) ∧ (Instr.lookup 72 (.map (some fm)) (.int .i64 G.f0) true).run Try.prog w' = .ok (.tuple #[.agg #[.int .i64 h.at_, .int .i64 h.kind, .int .i64 h.idx, .int .u8 h.xor], .bool told]) w') (ds := [11]) #[false, false, false, false, false, false, false, false, false, false, false, false, false] (by kernel_rfl) rfl rfl ⟨d1, c0, HLK.out w2.drew g4⟩ (fun hHeld => ?_)
          refine pure_ (i := 0) (N := some 92) (v := ?_) (a' := ?_) #[true, false, false, false, false, false, false, false, false, false, false, false, false] rfl rfl (by kernel_rfl) (fun _ _ _ h => h) (Or.inl ⟨by rfl, ?_⟩) ?_ ?_
          rotate_left
          · intro w'
            go_simp
            with_reducible rfl
          rotate_left
          · simp only [Act.put, List.setIfInBounds_toArray, List.set_cons_zero, List.set_cons_succ, i64_w, i32_w]
            rfl
          refine pure_ (i := 1) (N := some 93) (v := ?_) (a' := ?_) #[true, true, false, false, false, false, false, false, false, false, false, false, false] rfl rfl (by kernel_rfl) (fun _ _ _ h => h) (Or.inl ⟨by rfl, ?_⟩) ?_ ?_
          rotate_left
          · intro w'
            go_simp
            with_reducible rfl
          rotate_left
          · simp only [Act.put, List.setIfInBounds_toArray, List.set_cons_zero, List.set_cons_succ, i64_w, i32_w]
            rfl
          refine pure_ (i := 2) (N := some 94) (v := ?_) (a' := ?_) #[true, true, true, false, false, false, false, false, false, false, false, false, false] rfl rfl (by kernel_rfl) (fun _ _ _ h => h) (Or.inl ⟨by rfl, ?_⟩) ?_ ?_
          rotate_left
          · intro w'
            go_simp
            with_reducible rfl
          rotate_left
          · simp only [Act.put, List.setIfInBounds_toArray, List.set_cons_zero, List.set_cons_succ, i64_w, i32_w]
            rfl
          refine pure_ (i := 4) (N := some 96) (v := ?_) (a' := ?_) #[true, true, true, false, true, false, false, false, false, false, false, false, false] rfl rfl (by kernel_rfl) (fun _ _ _ h => h) (Or.inl ⟨by rfl, ?_⟩) ?_ ?_
          rotate_left
          · intro w'
            go_simp
            with_reducible rfl
          rotate_left
          · simp only [Act.put, List.setIfInBounds_toArray, List.set_cons_zero, List.set_cons_succ, i64_w, i32_w]
            rfl
          refine take_ (i := 3) (N := some 95) (v := ?_) (a' := ?_) #[true, true, true, true, true, false, false, false, false, false, false, false, false] rfl rfl (by kernel_rfl) (fun _ _ _ h => h) (Or.inl ⟨by rfl, ?_⟩) hHeld ?_ ?_
          rotate_left
          · rintro w' ⟨s0, s1, s2⟩
            go_simp
            with_reducible rfl
          rotate_left
          · simp only [Act.put, List.setIfInBounds_toArray, List.set_cons_zero, List.set_cons_succ, i64_w, i32_w]
            rfl
          refine take_ (i := 5) (N := some 97) (v := ?_) (a' := ?_) #[true, true, true, true, true, true, false, false, false, false, false, false, false] rfl rfl (by kernel_rfl) (fun _ _ _ h => h) (Or.inl ⟨by rfl, ?_⟩) hHeld ?_ ?_
          rotate_left
          · rintro w' ⟨s0, s1, s2⟩
            go_simp
            with_reducible rfl
          rotate_left
          · simp only [Act.put, List.setIfInBounds_toArray, List.set_cons_zero, List.set_cons_succ, i64_w, i32_w]
            rfl
          refine take_ (i := 6) (N := some 98) (v := ?_) (a' := ?_) #[true, true, true, true, true, true, true, false, false, false, false, false, false] rfl rfl (by kernel_rfl) (fun _ _ _ h => h) (Or.inl ⟨by rfl, ?_⟩) hHeld ?_ ?_
          rotate_left
          · rintro w' ⟨s0, s1, s2⟩
            go_simp
            with_reducible rfl
          rotate_left
          · simp only [Act.put, List.setIfInBounds_toArray, List.set_cons_zero, List.set_cons_succ, i64_w, i32_w]
            rfl
          refine pure_ (i := 7) (N := some 91) (v := ?_) (a' := ?_) #[true, true, true, true, true, true, true, true, false, false, false, false, false] rfl rfl (by kernel_rfl) (fun _ _ _ h => h) (Or.inl ⟨by rfl, ?_⟩) ?_ ?_
          rotate_left
          · intro w'
            go_simp
            with_reducible rfl
          rotate_left
          · simp only [Act.put, List.setIfInBounds_toArray, List.set_cons_zero, List.set_cons_succ, i64_w, i32_w]
            rfl
          refine pure_ (i := 8) (N := some 99) (v := ?_) (a' := ?_) #[true, true, true, true, true, true, true, true, true, false, false, false, false] rfl rfl (by kernel_rfl) (fun _ _ _ h => h) (Or.inl ⟨by rfl, ?_⟩) ?_ ?_
          rotate_left
          · intro w'
            go_simp
            with_reducible rfl
          rotate_left
          · simp only [Act.put, List.setIfInBounds_toArray, List.set_cons_zero, List.set_cons_succ, i64_w, i32_w]
            rfl
          refine pure_ (i := 9) (N := some 100) (v := ?_) (a' := ?_) #[true, true, true, true, true, true, true, true, true, true, false, false, false] rfl rfl (by kernel_rfl) (fun _ _ _ h => h) (Or.inl ⟨by rfl, ?_⟩) ?_ ?_
          rotate_left
          · intro w'
            go_simp
            with_reducible rfl
          rotate_left
          · simp only [Act.put, List.setIfInBounds_toArray, List.set_cons_zero, List.set_cons_succ, i64_w, i32_w]
            rfl
          refine one_ (i := 10) (N := some 13) #[true, true, true, true, true, true, true, true, true, true, true, false, false] rfl rfl (by kernel_rfl) (by decide) (fun K hK => ?_)
          refine value_ (w1 := ?_) (v := ?_) (by rfl) rfl ?_ ?_
          rotate_left 2
          · go_simp
            constructor
            · rfl
            · rfl
          refine hK.out _ _ ⟨(World.cell?_alloc_lt _ _ _ (World.block_lt_of_cell? _ _ hHeld.1)).trans hHeld.1, (World.cell?_alloc_lt _ _ _ (World.block_lt_of_cell? _ _ hHeld.2.1)).trans hHeld.2.1, HLK.out _ (((below_alloc (Below.refl w2.heap.size _) _).block fm (Array.getElem?_eq_some_iff.1 g4).1).trans g4)⟩ (fun hHeld => ?_)
          clear hK K
          refine norm_ (a' := ?_) ?_ ?_
          rotate_left
          · show Act.put _ (some 13) _ = _
            simp only [Act.put, List.setIfInBounds_toArray, List.set_cons_zero, List.set_cons_succ, i64_w, i32_w]
            rfl
          refine last_ (i := 11) (N := none) #[true, true, true, true, true, true, true, true, true, true, true, true, false] rfl rfl (by kernel_rfl) (by decide) (fun K hK => ?_)
          refine skip_ (w1 := ?_) (by rfl) rfl ?_ ?_
          rotate_left
          · go_simp
            rfl
          refine hK.out _ _ ?_
          clear hK K
          refine pure_ (i := 12) (N := some 14) (v := ?_) (a' := ?_) #[true, true, true, true, true, true, true, true, true, true, true, true, true] rfl rfl (by kernel_rfl) (fun _ _ _ h => h) (Or.inl ⟨by rfl, ?_⟩) ?_ ?_
          rotate_left
          · intro w'
            go_simp
            with_reducible rfl
          rotate_left
          · simp only [Act.put, List.setIfInBounds_toArray, List.set_cons_zero, List.set_cons_succ, i64_w, i32_w]
            rfl
          refine done_ (by kernel_rfl) ?_

          obtain ⟨w3, hw3⟩ : ∃ w3, w3 = (w2.alloc (.cells #[.int .i64 h.at_, .int .i64 h.kind, .int .i64 h.idx, .int .u8 h.xor] 54)).drew := ⟨_, rfl⟩
          rw [← hw3]
          have hb3 : Below w2.heap.size w2 w3 := by rw [hw3]; exact ⟨rfl, rfl, rfl, (below_alloc (Below.refl w2.heap.size w2) _).size, (below_alloc (Below.refl w2.heap.size w2) _).block⟩
          have hk3 := fun k (o : Obj) (hk : w2.heap[k]? = some o) => (hb3.block k (Array.getElem?_eq_some_iff.1 hk).1).trans hk
          have hx3 := hk3 _ _ HXF.out
          have hg31 := hk3 _ _ HG1.out.1
          have hg34 := hk3 _ _ HG1.out.2.2
          have HS3 := Aside0.mk (HS2.out.below hb3)
          have HBE3 := Aside0.mk (show Below w.heap.size w w3 from by
            have h2 := HBE2.out
            exact ⟨hb3.os.trans h2.os, hb3.tape.trans h2.tape, hb3.output.trans h2.output, Nat.le_trans h2.size hb3.size, fun k hk => (hb3.block k (Nat.lt_of_lt_of_le hk h2.size)).trans (h2.block k hk)⟩)
          clear hw3 hb3 hk3 hHeld HLK d1 g4 c0 c1' c2' c3' hg1l
          cases told with
          | true =>
            have HSN := Aside0.mk (show BusS w3 w.heap.size H r ds ((fs.take (j + 1)).map mkFl) 0 from by rw [HFJ.out]; exact HS3.out.told (mkFl G) HTO.out.symm)
            have HBN := HBE3
            clear hx3 hg31 hg34
            go_wp2
            have hjk := HJ.out
            refine Cu.handed (fs.length - (j + 1)) (by omega) (by assumption) ?_ (by kernel_rfl) (by kernel_rfl)
            try dsimp only [Cu.pick, Cu.rep, Cu.nth]
            exact ⟨j + 1, by rw [Int.natCast_add]; rfl, ⟨by omega⟩, HSN, HBN⟩
          | false =>
            obtain ⟨d0, d1, d2, d3⟩ := box4 hx3
            have e1 : w3.cell? ⟨r, 1, none⟩ = some (.map (some fm)) := (blk_cell hg31 1).trans rfl
            obtain ⟨w4, hrun, hf4, es', ck', hm4, hmf4⟩ := update_ w3.drew fm ck es Fj hg34 HG5.out (mkFl G) HTO.out.symm
            have HSN := Aside0.mk (show BusS w4 w.heap.size H r ds ((fs.take (j + 1)).map mkFl) 0 from by rw [HFJ.out]; exact HS3.out.drew.remap hg31 hf4 hm4 hmf4)
            have HBN := Aside0.mk (show Below w.heap.size w w4 from (hf4.belowB (w0 := w) (B := w.heap.size) ⟨HBE3.out.os, HBE3.out.tape, HBE3.out.output, HBE3.out.size, HBE3.out.block⟩ (fun k hk => by rw [hk]; exact HG1.out.2.1.1) HBE3.out.size))
            have hrun' : (Instr.mapUpdate 72 (.map (some fm)) (.int .i64 G.f0) (.agg #[.int .i64 G.f0, .int .i64 G.f1, .int .i64 G.f2, .int .u8 G.f3])).run Try.prog w3.drew = .ok () w4 := hrun
            clear hrun hf4 hm4 hmf4 hx3 hg31 hg34
            go_upto_region 20 with fail
            refine start_ (n := 8) (S := fun w' => w'.cell? ⟨r, 1, none⟩ = some (.map (some fm)) ∧ w'.cell? ⟨xf, 0, none⟩ = some (.int .i64 G.f0) ∧ w'.cell? ⟨xf, 1, none⟩ = some (.int .i64 G.f1) ∧ w'.cell? ⟨xf, 2, none⟩ = some (.int .i64 G.f2) ∧ w'.cell? ⟨xf, 3, none⟩ = some (.int .u8 G.f3)) (ds := [7]) #[false, false, false, false, false, false, false, false] (by kernel_rfl) rfl rfl ⟨e1, d0, d1, d2, d3⟩ (fun hHeld => ?_)
            refine pure_ (i := 0) (N := some 103) (v := ?_) (a' := ?_) #[true, false, false, false, false, false, false, false] rfl rfl (by kernel_rfl) (fun _ _ _ h => h) (Or.inl ⟨by rfl, ?_⟩) ?_ ?_
            rotate_left
            · intro w'
              go_simp
              with_reducible rfl
            rotate_left
            · simp only [Act.put, List.setIfInBounds_toArray, List.set_cons_zero, List.set_cons_succ, i64_w, i32_w]
              rfl
            refine pure_ (i := 1) (N := some 104) (v := ?_) (a' := ?_) #[true, true, false, false, false, false, false, false] rfl rfl (by kernel_rfl) (fun _ _ _ h => h) (Or.inl ⟨by rfl, ?_⟩) ?_ ?_
            rotate_left
            · intro w'
              go_simp
              with_reducible rfl
            rotate_left
            · simp only [Act.put, List.setIfInBounds_toArray, List.set_cons_zero, List.set_cons_succ, i64_w, i32_w]
              rfl
            refine pure_ (i := 2) (N := some 105) (v := ?_) (a' := ?_) #[true, true, true, false, false, false, false, false] rfl rfl (by kernel_rfl) (fun _ _ _ h => h) (Or.inl ⟨by rfl, ?_⟩) ?_ ?_
            rotate_left
            · intro w'
              go_simp
              with_reducible rfl
            rotate_left
            · simp only [Act.put, List.setIfInBounds_toArray, List.set_cons_zero, List.set_cons_succ, i64_w, i32_w]
              rfl
            refine pure_ (i := 4) (N := some 107) (v := ?_) (a' := ?_) #[true, true, true, false, true, false, false, false] rfl rfl (by kernel_rfl) (fun _ _ _ h => h) (Or.inl ⟨by rfl, ?_⟩) ?_ ?_
            rotate_left
            · intro w'
              go_simp
              with_reducible rfl
            rotate_left
            · simp only [Act.put, List.setIfInBounds_toArray, List.set_cons_zero, List.set_cons_succ, i64_w, i32_w]
              rfl
            refine take_ (i := 3) (N := some 106) (v := ?_) (a' := ?_) #[true, true, true, true, true, false, false, false] rfl rfl (by kernel_rfl) (fun _ _ _ h => h) (Or.inl ⟨by rfl, ?_⟩) hHeld ?_ ?_
            rotate_left
            · rintro w' ⟨s0, s1, s2, s3, s4⟩
              go_simp
              with_reducible rfl
            rotate_left
            · simp only [Act.put, List.setIfInBounds_toArray, List.set_cons_zero, List.set_cons_succ, i64_w, i32_w]
              rfl
            refine take_ (i := 5) (N := some 108) (v := ?_) (a' := ?_) #[true, true, true, true, true, true, false, false] rfl rfl (by kernel_rfl) (fun _ _ _ h => h) (Or.inl ⟨by rfl, ?_⟩) hHeld ?_ ?_
            rotate_left
            · rintro w' ⟨s0, s1, s2, s3, s4⟩
              go_simp
              with_reducible rfl
            rotate_left
            · simp only [Act.put, List.setIfInBounds_toArray, List.set_cons_zero, List.set_cons_succ, i64_w, i32_w]
              rfl
            refine take_ (i := 6) (N := some 109) (v := ?_) (a' := ?_) #[true, true, true, true, true, true, true, false] rfl rfl (by kernel_rfl) (fun _ _ _ h => h) (Or.inl ⟨by rfl, ?_⟩) hHeld ?_ ?_
            rotate_left
            · rintro w' ⟨s0, s1, s2, s3, s4⟩
              go_simp
              with_reducible rfl
            rotate_left
            · simp only [Act.put, List.setIfInBounds_toArray, List.set_cons_zero, List.set_cons_succ, i64_w, i32_w]
              rfl
            refine last_ (i := 7) (N := none) #[true, true, true, true, true, true, true, true] rfl rfl (by kernel_rfl) (by decide) (fun K hK => ?_)
            refine skip_ (w1 := ?_) (by rfl) rfl ?_ ?_
            rotate_left
            · go_simp
              rfl
            refine hK.out _ _ ?_
            clear hK K
            refine done_ (by kernel_rfl) ?_

            clear hHeld hrun' e1 d0 d1 d2 d3
            go_wp2
            have hjk := HJ.out
            refine Cu.handed (fs.length - (j + 1)) (by omega) (by assumption) ?_ (by kernel_rfl) (by kernel_rfl)
            try dsimp only [Cu.pick, Cu.rep, Cu.nth]
            exact ⟨j + 1, by rw [Int.natCast_add]; rfl, ⟨by omega⟩, HSN, HBN⟩
        · have hjd : decide ((j : Int) < (fs.length : Int)) = false := decide_eq_false (by omega)
          have hjl : fs.take j = fs := List.take_of_length_le (by have := HJ.out; omega)
          have HJL := Aside0.mk hjl
          clear hjl
          go_wp2
          go_ret2
          refine ⟨r, H, ds, rfl, ?_, HDS2.out, HBE.out⟩
          have := HS.out
          rw [HJL.out] at this
          exact this
end Go.Proofs.Ytpolofolibabiaa.Bs
