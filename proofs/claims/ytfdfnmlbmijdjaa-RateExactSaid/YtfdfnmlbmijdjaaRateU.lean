/-
  Walks of the page's own table (gimbalref26), merged from four texts: its state, All, Take; Needing; Drop; Add.
  No conditions.
-/
import Derived.Test.YtfdfnmlbmijdjaaRateV
import Derived.Test.YtfdfnmlbmijdjaaRateP2
/-
  Walks of the page's own table (gimbalref26): its state; All, Take.
  No conditions.
-/
namespace Go.Proofs.Ytfdfnmlbmijdjaa.Rt
open Go.RowKit Go.Lib Go.Proofs.YtfdfnmlbmijdjaaW.PrintWords Go.Proofs.YtfdfnmlbmijdjaaW.PrintLast Go.Proofs.YtfdfnmlbmijdjaaW.PrintMore
set_option linter.unusedVariables false
set_option linter.unusedSimpArgs false
def kE : Kd Ent := Kd.iso (Kd.pair (Kd.int .i64) (Kd.pair (Kd.int .i64) (Kd.pair (Kd.int .i64) (Kd.pair (Kd.int .i64) (Kd.int .i64))))) (fun x : Ent => (x.a, x.b, x.p, x.q, x.d))
def encE (x : Ent) : List Value := [.int .i64 x.a, .int .i64 x.b, .int .i64 x.p, .int .i64 x.q, .int .i64 x.d]
theorem kE_openM {w : World} {base : Nat} {ok : Nat → Prop} {x : Ent} {cs : List Value} (h : kE.M w base ok x cs) : cs = encE x := by
  obtain ⟨_, _, rfl, rfl, ⟨_, _, rfl, rfl, ⟨_, _, rfl, rfl, ⟨_, _, rfl, rfl, rfl⟩⟩⟩⟩ := h
  exact rfl
theorem kE_mkM (w : World) (base : Nat) (ok : Nat → Prop) (x : Ent) : kE.M w base ok x (encE x) := ⟨[.int .i64 x.a], [.int .i64 x.b, .int .i64 x.p, .int .i64 x.q, .int .i64 x.d], rfl, rfl, ⟨[.int .i64 x.b], [.int .i64 x.p, .int .i64 x.q, .int .i64 x.d], rfl, rfl, ⟨[.int .i64 x.p], [.int .i64 x.q, .int .i64 x.d], rfl, rfl, ⟨[.int .i64 x.q], [.int .i64 x.d], rfl, rfl, rfl⟩⟩⟩⟩
theorem infoE : (Try.prog.info? 80).map (fun i => (i.zero, i.size, i.bytes)) = some (some (.agg #[.int .i64 0, .int .i64 0, .int .i64 0, .int .i64 0, .int .i64 0]), 5, 40) := by kernel_rfl
/-- The page's table at g holds E; its row is its own. -/
def RTab (base : Nat) (w : World) (g : Nat) (v : Value) (E : List Ent) : Prop :=
  w.heap[g]? = some (.cells #[v] 49 (0, 0)) ∧ Kd.R kE 80 w base (fun _ => True) v E
theorem RTab.slice {base : Nat} {w : World} {g : Nat} {v : Value} {E : List Ent} (h : RTab base w g v E) : ∃ A c, v = .slice A E.length c := Kd.R_slice h.2
theorem RTab.block {base : Nat} {w : World} {g n c : Nat} {A : Option Addr} {E : List Ent} (h : RTab base w g (.slice A n c) E) (h0 : 0 < E.length) : ∃ b, A = some ⟨b, 0, none⟩ ∧ E.length ≤ c ∧ n = E.length ∧ base ≤ b ∧ b < w.heap.size := by
  have hn := (Kd.R_reads' h.2).1
  have hc := (Kd.R_reads' h.2).2.1
  obtain ⟨b, cap, he, hb, hl, _⟩ := Kd.R_form h.2 h0
  injection he with ha
  exact ⟨b, ha, by omega, hn, hb, hl⟩
theorem RTab.cells {base : Nat} {w : World} {g n c b : Nat} {E : List Ent} (h : RTab base w g (.slice (some ⟨b, 0, none⟩) n c) E) (j : Nat) (hj : j < E.length) (k : Nat) (u : Value) (hu : (encE E[j]!)[k]? = some u) : w.cell? ⟨b, j * 5 + k, none⟩ = some u := by
  have hn := (Kd.R_reads' h.2).1
  obtain ⟨c, hc, hM, hcell, _⟩ := Kd.R_elem h.2 (default : Ent) (j : Int) (by omega) (by omega)
  have := kE_openM hM
  rw [Int.toNat_natCast, List.getD_eq_getElem?_getD, List.getElem?_eq_getElem hj, Option.getD_some] at this
  rw [getElem!_pos E j hj] at hu
  exact hcell k u (by rw [this]; exact hu)
theorem RTab.below {base : Nat} {w w' : World} {g : Nat} {v : Value} {E : List Ent} (h : RTab base w g v E) (hb : Below w.heap.size w w') : RTab base w' g v E := ⟨(hb.block g (blk_lt h.1)).trans h.1, Kd.R_below h.2 hb⟩
/-- Nothing but block g and rows of the page's rows made since base has changed. -/
structure RMov (base : Nat) (w w' : World) (g : Nat) : Prop where
  os : w'.os = w.os
  tape : w'.tape = w.tape
  output : w'.output = w.output
  size : w.heap.size ≤ w'.heap.size
  block : ∀ k, k < w.heap.size → k ≠ g → (k < base ∨ ∀ cs r, w.heap[k]? ≠ some (.cells cs 80 r)) → w'.heap[k]? = w.heap[k]?
theorem RMov.trans {base : Nat} {w w1 w2 : World} {g : Nat} (h : RMov base w w1 g) (h1 : RMov base w1 w2 g) : RMov base w w2 g :=
  ⟨h1.os.trans h.os, h1.tape.trans h.tape, h1.output.trans h.output, Nat.le_trans h.size h1.size, fun k hk hkg hkt => by
    have e := h.block k hk hkg hkt
    exact (h1.block k (Nat.lt_of_lt_of_le hk h.size) hkg (by rw [e]; exact hkt)).trans e⟩
theorem RMov.of_below {base : Nat} {w w' : World} {g : Nat} (hb : Below w.heap.size w w') : RMov base w w' g := ⟨hb.os, hb.tape, hb.output, hb.size, fun k hk _ _ => hb.block k hk⟩
theorem RMov.below {base : Nat} {W w w' : World} {g : Nat} (h : RMov base W w g) (hb : Below W.heap.size w w') : RMov base W w' g :=
  ⟨hb.os.trans h.os, hb.tape.trans h.tape, hb.output.trans h.output, Nat.le_trans h.size hb.size, fun k hk hkg hkt => (hb.block k hk).trans (h.block k hk hkg hkt)⟩
theorem RMov.belowB {base : Nat} {w0 w w' : World} {g : Nat} (h : RMov base w w' g) (hB : Below base w0 w) (hg : base ≤ g) (hs : base ≤ w.heap.size) : Below base w0 w' :=
  ⟨h.os.trans hB.os, h.tape.trans hB.tape, h.output.trans hB.output, Nat.le_trans hB.size h.size, fun k hk => (h.block k (by omega) (by omega) (.inl hk)).trans (hB.block k hk)⟩
theorem RMov.refl (base : Nat) (w : World) (g : Nat) : RMov base w w g := ⟨rfl, rfl, rfl, Nat.le_refl _, fun _ _ _ _ => rfl⟩
set_option maxHeartbeats 8000000 in
set_option maxRecDepth 100000 in
theorem rall_ (base g : Nat) (v : Value) (E : List Ent) (W : World) (h : RTab base W g v E) (hsz : E.length < 1099511627776) : Calls Try.prog 27 #[.pointer (some ⟨g, 0, none⟩)] W fun e w' => ∃ v', e = .returned v' ∧ Kd.R kS 29 w' W.heap.size (fun _ => True) v' (E.map Ent.sub) ∧ Below W.heap.size W w' := by
  obtain ⟨A, c, rfl⟩ := h.slice
  have hg : g < W.heap.size := blk_lt h.1
  have hcell : ∀ i, i < E.length → ∃ b, A = some ⟨b, 0, none⟩ ∧ b < W.heap.size ∧ E.length ≤ c ∧ ∀ k u, (encE E[i]!)[k]? = some u → W.cell? ⟨b, i * 5 + k, none⟩ = some u := fun i hi => by
    obtain ⟨b, rfl, hbc, _, _, hbl⟩ := h.block (by omega)
    exact ⟨b, rfl, hbl, hbc, fun k u hu => h.cells i hi k u hu⟩
  have hgc : ∀ w', Below W.heap.size W w' → w'.cell? ⟨g, 0, none⟩ = some (.slice A E.length c) := fun w' hb => (hb.cell hg).trans ((blk_cell h.1 0).trans rfl)
  have HC := Lib.hid hcell
  have HGC := Lib.hid hgc
  obtain ⟨n, hn⟩ : ∃ n, n = E.length := ⟨_, rfl⟩
  rw [← hn] at HC HGC hsz
  have HN := Lib.hid hn
  clear h hcell hn hgc
  go_enter Try.func27, Try.ntmps27
  go_wp2_with fail
  refine Cu.wp_loop (Cu.rep 3 Cu.f (Cu.rep 22 Cu.t (Cu.rep 1 Cu.f []))) 22 (fun kq us_ w' => ∃ i : Nat, (Cu.nth us_ 1) = .int .i64 (i : Int) ∧ Aside0 (kq + i = n) ∧ Aside0 (Kd.R kS 29 w' W.heap.size (fun _ => True) (Cu.nth us_ 0) ((E.take i).map Ent.sub)) ∧ Aside0 (Below W.heap.size W w')) n ?_ (by kernel_rfl) (by kernel_rfl) ?_
  · try dsimp only [Cu.pick, Cu.rep, Cu.nth]
    exact ⟨0, rfl, ⟨rfl⟩, ⟨Kd.R_nil _ _ _ _ _⟩, ⟨Below.refl _ _⟩⟩
  · intro gk wr u3 u4 u5 u6 u7 u8 u9 u10 u11 u12 u13 u14 u15 u16 u17 u18 u19 u20 u21 u22 u23 u24
    try dsimp only [Cu.over, Cu.rep, Cu.nth]
    intro hrel _ _ _ _
    obtain ⟨i, rfl, HK, HO, HB⟩ := hrel
    have cg := HGC.out wr HB.out
    by_cases hi : i < n
    · obtain ⟨b, rfl, hbl, hbc, hcl⟩ := HC.out i (by have := HN.out; omega)
      have hcl' : ∀ k u, (encE E[i]!)[k]? = some u → wr.cell? ⟨b, i * 5 + k, none⟩ = some u := fun k u hu => (HB.out.cell hbl).trans (hcl k u hu)
      have htk : (E.take (i + 1)).map Ent.sub = (E.take i).map Ent.sub ++ [E[i]!.sub] := by
        rw [List.take_add_one, List.getElem?_eq_getElem (by have := HN.out; omega), List.map_append]
        rw [getElem!_pos E i (by have := HN.out; omega)]
        rfl
      generalize hy : E[i]! = y at hcl' htk
      obtain ⟨y1, y2, y3, y4, y5, y6, y7⟩ := y
      have c0 : wr.cell? ⟨b, i * 5, none⟩ = some (.int .i64 y3) := hcl' 0 _ rfl
      have c1 := hcl' 1 _ rfl
      have c2 := hcl' 2 _ rfl
      have c3 := hcl' 3 _ rfl
      have hii : (i : Int) < (n : Int) := by omega
      have HT := Lib.hid htk
      have HX := Lib.hid (show (i + 1) * 32 ≤ 140737488355328 from by omega)
      clear hcl hcl' hy htk hi
      go_wp2_with (at_builtin; refine Kd.R_append kS (w0 := W) W.heap.size rfl (.tmp 14) (.tmp 23) 44 29 (.agg #[.int .i64 0, .int .i64 0, .int .i64 0, .int .i64 0]) 32 rfl Try.underlying44 infoS rfl (by decide) (by omega) u3 ((E.take i).map Ent.sub) ⟨y3, y4, y5, y6⟩ [.int .i64 y3, .int .i64 y4, .int .i64 y5, .int .i64 y6] (fun _ => True) (fun _ => False) rfl (by simp [Act.eval]) ?aP (fun _ hk => hk.elim) ?aF ?aO ?aB ?aS ?aL ?_; (case aP => exact kS_mkM _ _ _ _); (case aF => exact (fun _ _ => trivial)); (case aO => exact HO.out); (case aB => exact HB.out); (case aS => exact below_size HB.out); (case aL => rw [List.length_map, List.length_take]; have := HX.out; omega); intro v1 w10 ho hb hg hat; have HO2 := Aside0.mk ho; have HB2 := Aside0.mk hb; clear ho hb hg hat)
      refine Cu.handed (n - (i + 1)) (by have := HK.out; omega) (by assumption) ?_ (by kernel_rfl) (by kernel_rfl)
      try dsimp only [Cu.pick, Cu.rep, Cu.nth]
      exact ⟨i + 1, by rw [Int.natCast_add]; rfl, ⟨by omega⟩, ⟨by rw [HT.out]; exact HO2.out⟩, HB2⟩
    · go_wp2
      go_ret
      refine ⟨_, rfl, ?_, HB.out⟩
      have he : E.take i = E := List.take_of_length_le (by have := HN.out; omega)
      have := HO.out
      rw [he] at this
      exact this
/-- The due cell written. -/
theorem RTab.due {base : Nat} {w : World} {g b n c : Nat} {E : List Ent} (h : RTab base w g (.slice (some ⟨b, 0, none⟩) n c) E) (i : Nat) (hi : i < E.length) (d : Int) : RTab base (w.setCell ⟨b, i * 5 + 4, none⟩ (.int .i64 d)) g (.slice (some ⟨b, 0, none⟩) n c) (E.set i ⟨E[i]!.c, E[i]!.s, E[i]!.a, E[i]!.b, E[i]!.p, E[i]!.q, d⟩) ∧ RMov base w (w.setCell ⟨b, i * 5 + 4, none⟩ (.int .i64 d)) g := by
  have hn := (Kd.R_reads' h.2).1
  obtain ⟨cs, hty⟩ : ∃ cs, w.heap[b]? = some (.cells cs 80 (0, 0)) := by
    obtain ⟨inner, ho⟩ := Kd.R_own h.2
    exact own_typed ho b rfl
  have hgb : g ≠ b := fun e => by
    have h1 := h.1
    rw [e, hty] at h1
    injection h1 with h1
    injection h1 with _ h1 _
    exact absurd h1 (by decide)
  have hbase : base ≤ b := by
    obtain ⟨inner, ho⟩ := Kd.R_own h.2
    exact own_base ho b rfl
  have hs := (Kd.R_seg (c := encE E[i]!) (seg := [.int .i64 d]) (j := 4) (okp := fun _ => False) h.2 (i : Int) (by omega) (by omega) rfl (fun j u hu => by rw [Int.toNat_natCast]; exact h.cells i hi j u hu) (Nat.le_refl 5) (x' := ⟨E[i]!.c, E[i]!.s, E[i]!.a, E[i]!.b, E[i]!.p, E[i]!.q, d⟩) (by exact kE_mkM _ _ _ _) (fun _ hk => hk.elim)).1
  rw [Int.toNat_natCast] at hs
  have hw : w.setCells b (i * 5 + 4) [.int .i64 d] = w.setCell ⟨b, i * 5 + 4, none⟩ (.int .i64 d) := rfl
  refine ⟨⟨(Below.heap_setCell _ _ _ _ hgb).trans h.1, ?_⟩, ⟨rfl, rfl, rfl, by simp [World.setCell], fun k hk hkg hkt => Below.heap_setCell _ _ _ _ (fun e => ?_)⟩⟩
  · rw [← hw]; exact hs
  · have e' : k = b := e
    subst e'
    rcases hkt with hkt | hkt
    · omega
    · exact hkt _ _ hty
theorem RTab.unfrozen {base : Nat} {w : World} {g b n c : Nat} {E : List Ent} (h : RTab base w g (.slice (some ⟨b, 0, none⟩) n c) E) (i j : Nat) (hi : i < E.length) : w.frozen? ⟨b, i * 5 + j, none⟩ = false := by
  have hn := (Kd.R_reads' h.2).1
  obtain ⟨_, _, _, _, hf⟩ := Kd.R_elem h.2 (default : Ent) (i : Int) (by omega) (by omega)
  exact hf j
theorem RTab.below2 {base : Nat} {w w' : World} {g b n c B : Nat} {E : List Ent} (h : RTab base w g (.slice (some ⟨b, 0, none⟩) n c) E) (hb : Below B w w') (hg : g < B) (hbb : b < B) : RTab base w' g (.slice (some ⟨b, 0, none⟩) n c) E := by
  refine ⟨(hb.block g hg).trans h.1, ?_⟩
  obtain ⟨h0, inner, ho, hr⟩ := h.2
  refine ⟨h0, inner, own_move ho (fun k hk => ?_), hr.imp_ (fun p cs hp => ?_)⟩
  · have e : b = k := by injection hk
    subst e
    exact hb.block b hbb
  · rw [kE_openM hp]
    exact kE_mkM _ _ _ _
theorem RTab.blk80 {base : Nat} {w : World} {g b n c : Nat} {E : List Ent} (h : RTab base w g (.slice (some ⟨b, 0, none⟩) n c) E) : ∃ cs, w.heap[b]? = some (.cells cs 80 (0, 0)) := by
  obtain ⟨inner, ho⟩ := Kd.R_own h.2
  exact own_typed ho b rfl
def takeQ (E : List Ent) (s now : Int) : List Int := (E.filter (hit s now)).map (·.q)
theorem takeQ_succ (E : List Ent) (s now : Int) (i : Nat) (hi : i < E.length) : takeQ (E.take (i + 1)) s now = takeQ (E.take i) s now ++ (if hit s now E[i]! then [E[i]!.q] else []) := by
  unfold takeQ
  rw [List.take_add_one, List.getElem?_eq_getElem hi, List.filter_append, List.map_append, getElem!_pos E i hi]
  congr 1
  cases h : hit s now E[i] <;> simp [h]
theorem takeQ_len (E : List Ent) (s now : Int) : (takeQ E s now).length ≤ E.length := by
  unfold takeQ
  rw [List.length_map]
  exact List.length_filter_le _ _
/-- Two rows apart: the first one has grown. -/
theorem two_first {α : Type} {d : Kd α} {e : Nat} {w w1 : World} {base : Nat} {v v1 u : Value} {xs : List α} (h : Kd.R d e w base (fun k => some k ≠ v.ownBlock) u xs) (hg : w.grownBy w1 v.ownBlock) (hat : v1.ownBlock = v.ownBlock ∨ ∃ b, v1.ownBlock = some b ∧ w.heap.size ≤ b) : Kd.R d e w1 base (fun k => some k ≠ v1.ownBlock) u xs :=
  Kd.R_mono (Kd.R_grown (Kd.R_bound h) hg (fun k hk => hk.1)) (fun k hk => by
    rcases hat with e | ⟨b, e, hb⟩
    · rw [e]; exact hk.1
    · rw [e]
      intro he
      injection he with he
      have := hk.2.2.1
      omega)
/-- The second one has. -/
theorem two_second {k0 : IntKind} {e : Nat} {w w1 : World} {base : Nat} {ok : Nat → Prop} {v u : Value} {xs ys : List Int} (h : Kd.R (Kd.int k0) e w base ok v xs) (hu : Kd.R (Kd.int k0) e w base (fun k => some k ≠ v.ownBlock) u ys) (hg : w.grownBy w1 u.ownBlock) : Kd.R (Kd.int k0) e w1 base ok v xs := by
  obtain ⟨h0, inner, ho, hr⟩ := h
  exact ⟨h0, inner, own_move ho (fun k hk => hg.block k (own_lt ho k hk) (fun e => hu.1 k e.symm hk.symm)), hr.imp_ (fun _ _ hp => hp)⟩
theorem own_fresh {α : Type} {d : Kd α} {e : Nat} {w : World} {base : Nat} {ok : Nat → Prop} {v : Value} {xs : List α} (h : Kd.R d e w base ok v xs) : ∀ k, w.heap.size ≤ k → some k ≠ v.ownBlock := fun k hk e => by
  obtain ⟨inner, ho⟩ := Kd.R_own h
  have := own_lt ho k e.symm
  omega
set_option maxHeartbeats 16000000 in
set_option maxRecDepth 100000 in
theorem rtake_ (base g : Nat) (v : Value) (E : List Ent) (s now : Int) (W : World) (h : RTab base W g v E) (hsz : E.length < 1099511627776) (hs : s ≤ 15) (ho : Own E) : Calls Try.prog 20 #[.pointer (some ⟨g, 0, none⟩), .int .i64 s, .int .i64 now] W fun e w' => ∃ v' v2 v1, e = .returned (.tuple #[v', v2]) ∧ Kd.R (Kd.int .i64) 3 w' W.heap.size (fun _ => True) v' (takeL E s now) ∧ RTab base w' g v1 (takeE E s now) ∧ RMov base W w' g := by
  obtain ⟨A, c, rfl⟩ := h.slice
  have hg : g < W.heap.size := blk_lt h.1
  have hA : ∀ i, i < E.length → ∃ b, A = some ⟨b, 0, none⟩ ∧ b < W.heap.size ∧ E.length ≤ c := fun i hi => by
    obtain ⟨b, rfl, hbc, _, _, hbl⟩ := h.block (by omega)
    exact ⟨b, rfl, hbl, hbc⟩
  have HA := Lib.hid hA
  have H0 := Lib.hid h
  have HOW := Lib.hid ho
  obtain ⟨n, hn⟩ : ∃ n, n = E.length := ⟨_, rfl⟩
  rw [← hn] at HA hsz H0
  have HN := Lib.hid hn
  have hfin : ∀ (w' : World) (v' : Value), Kd.R (Kd.int .i64) 3 w' W.heap.size (fun _ => True) v' (takeL (E.take n) s now) ∧ RTab base w' g (.slice A n c) (half E s now n) → Kd.R (Kd.int .i64) 3 w' W.heap.size (fun _ => True) v' (takeL E s now) ∧ RTab base w' g (.slice A n c) (takeE E s now) := fun w' v' hh => by
    have e1 : E.take n = E := List.take_of_length_le (by omega)
    have e2 : half E s now n = takeE E s now := by
      unfold half takeE
      rw [e1, List.drop_of_length_le (by omega), List.append_nil]
    rw [e1, e2] at hh
    exact hh
  have HF := Lib.hid hfin
  clear h hA hn hfin ho
  go_enter Try.func20, Try.ntmps20
  go_wp2_with fail
  refine Cu.wp_loop (Cu.rep 8 Cu.f (Cu.rep 64 Cu.t (Cu.rep 2 Cu.f []))) 64 (fun kq us_ w' => ∃ i : Nat, (Cu.nth us_ 2) = .int .i64 (i : Int) ∧ Aside0 (kq + i = n) ∧ Aside0 (Kd.R (Kd.int .i64) 3 w' W.heap.size (fun _ => True) (Cu.nth us_ 0) (takeL (E.take i) s now)) ∧ Aside0 (Kd.R (Kd.int .i64) 3 w' W.heap.size (fun k => some k ≠ (Cu.nth us_ 0).ownBlock) (Cu.nth us_ 1) (takeQ (E.take i) s now)) ∧ Aside0 (RTab base w' g (.slice A n c) (half E s now i)) ∧ Aside0 (RMov base W w' g)) n ?_ (by kernel_rfl) (by kernel_rfl) ?_
  · try dsimp only [Cu.pick, Cu.rep, Cu.nth]
    refine ⟨0, rfl, ⟨rfl⟩, ⟨Kd.R_nil _ _ _ _ _⟩, ⟨Kd.R_nil _ _ _ _ _⟩, ⟨?_⟩, ⟨RMov.refl _ _ _⟩⟩
    exact H0.out
  intro gk wr u8 u9 u10 u11 u12 u13 u14 u15 u16 u17 u18 u19 u20 u21 u22 u23 u24 u25 u26 u27 u28 u29 u30 u31 u32 u33 u34 u35 u36 u37 u38 u39 u40 u41 u42 u43 u44 u45 u46 u47 u48 u49 u50 u51 u52 u53 u54 u55 u56 u57 u58 u59 u60 u61 u62 u63 u64 u65 u66 u67 u68 u69 u70 u71
  try dsimp only [Cu.over, Cu.rep, Cu.nth]
  intro hrel _ _ _ _
  obtain ⟨i, rfl, HK, HO, HQ, HTb, HM⟩ := hrel
  have cg : wr.cell? ⟨g, 0, none⟩ = some (.slice A n c) := (blk_cell HTb.out.1 0).trans rfl
  by_cases hi : i < n
  · obtain ⟨b, rfl, hbl, hbc⟩ := HA.out i hi
    have hii : (i : Int) < (n : Int) := by omega
    have hiE : i < E.length := by have := HN.out; omega
    have hcl : ∀ k u, (encE E[i]!)[k]? = some u → wr.cell? ⟨b, i * 5 + k, none⟩ = some u := fun k u hu => by
      have := HTb.out.cells i (by rw [half_len]; exact hiE) k u
      rw [half_get E s now i hiE] at this
      exact this hu
    have hsame := half_same E s now i hiE
    have hsucc := half_succ E s now i hiE
    have htl := takeL_succ E s now i hiE
    have htq := takeQ_succ E s now i hiE
    have hget := half_get E s now i hiE
    have hown := HOW.out E[i]! (by rw [getElem!_pos E i hiE]; exact List.getElem_mem hiE)
    generalize hy : E[i]! = y at hcl hsame hsucc htl htq hget hown
    obtain ⟨y1, y2, y3, y4, y5, y6, y7⟩ := y
    obtain ⟨rfl, rfl⟩ : y3 = y1 ∧ y4 = y2 := hown
    have c0 : wr.cell? ⟨b, i * 5, none⟩ = some (.int .i64 y3) := hcl 0 _ rfl
    have c1 := hcl 1 _ rfl
    have c2 := hcl 2 _ rfl
    have c3 := hcl 3 _ rfl
    have c4 := hcl 4 _ rfl
    have HSA := Lib.hid hsame
    have HSU := Lib.hid hsucc
    have HTL := Lib.hid htl
    have HTQ := Lib.hid htq
    have HGE := Lib.hid hget
    have HX := Lib.hid (show (i + 1) * 8 ≤ 140737488355328 from by omega)
    clear hcl hy hsame hsucc htl htq hget hiE hi
    by_cases hs1 : y4 = s
    · by_cases hd : y7 ≤ now
      · have hhit : hit s now ⟨y3, y4, y3, y4, y5, y6, y7⟩ = true := by unfold hit; simp [hs1, hd]
        have hupd : upd s now ⟨y3, y4, y3, y4, y5, y6, y7⟩ = ⟨y3, y4, y3, y4, y5, y6, wrap64 (now + y5)⟩ := by unfold upd; rw [if_pos ⟨hs1, hd⟩]
        rw [hhit, if_pos rfl] at HTL HTQ
        rw [hupd] at HSU
        clear hhit hupd
        go_wp2_with (first | (at_builtin; refine Kd.R_append (Kd.int .i64) (w0 := wr) W.heap.size rfl (.tmp 46) (.tmp 52) 36 3 (.int .i64 0) 8 rfl Try.underlying36 info3 rfl (by decide) (by omega) u8 (takeL (E.take i) s now) y3 [.int .i64 y3] (fun _ => True) (fun _ => False) rfl (by simp [Act.eval]) ?aP (fun _ hk => hk.elim) ?aF ?aO ?aB ?aS ?aL ?_; (case aP => rfl); (case aF => exact (fun _ _ => trivial)); (case aO => exact HO.out); (case aB => exact Below.refl _ _); (case aS => exact HM.out.size); (case aL => have h1 := takeL_len (E.take i) s now; rw [List.length_take] at h1; have := HX.out; omega); intro v1 w10 ho hb hgr hat; have hT10 := HTb.out.below2 hb hg hbl; have d0 := (hb.cell (p := ⟨b, i * 5, none⟩) hbl).trans c0; have d2 := (hb.cell (p := ⟨b, i * 5 + 2, none⟩) hbl).trans c2; have d3 := (hb.cell (p := ⟨b, i * 5 + 3, none⟩) hbl).trans c3; have d4 := (hb.cell (p := ⟨b, i * 5 + 4, none⟩) hbl).trans c4; have dg := (hb.cell (p := ⟨g, 0, none⟩) hg).trans cg; have HT10 := Aside0.mk hT10; have HO2 := Aside0.mk ho; have HQ2 := Aside0.mk (two_first HQ.out hgr hat); have HM2 := Aside0.mk (HM.out.below hb); clear ho hb hgr hat hT10) | (at_builtin; refine Kd.R_append (Kd.int .i64) (w0 := w10) W.heap.size rfl (.tmp 54) (.tmp 60) 36 3 (.int .i64 0) 8 rfl Try.underlying36 info3 rfl (by decide) (by omega) u9 (takeQ (E.take i) s now) y6 [.int .i64 y6] (fun k => some k ≠ v1.ownBlock) (fun _ => False) rfl (by simp [Act.eval]) ?aP (fun _ hk => hk.elim) ?aF ?aO ?aB ?aS ?aL ?_; (case aP => rfl); (case aF => exact own_fresh HO2.out); (case aO => exact HQ2.out); (case aB => exact Below.refl _ _); (case aS => exact HM2.out.size); (case aL => have h1 := takeQ_len (E.take i) s now; rw [List.length_take] at h1; have := HX.out; omega); intro v2 w11 ho hb hgr hat; have hT11 := HT10.out.below2 hb hg hbl; have f2 := (hb.cell (p := ⟨b, i * 5 + 2, none⟩) hbl).trans d2; have f4 := (hb.cell (p := ⟨b, i * 5 + 4, none⟩) hbl).trans d4; have hfz := hT11.unfrozen i 4 (by rw [half_len]; have := HN.out; omega); have HT11 := Aside0.mk hT11; have HO3 := Aside0.mk (two_second HO2.out HQ2.out hgr); have HQ3 := Aside0.mk ho; have HM3 := Aside0.mk (HM2.out.below hb); clear ho hb hgr hat hT11))
        refine Cu.handed (n - (i + 1)) (by have := HK.out; omega) (by assumption) ?_ (by kernel_rfl) (by kernel_rfl)
        try dsimp only [Cu.pick, Cu.rep, Cu.nth]
        have hdue := HT11.out.due i (by rw [half_len]; have := HN.out; omega) (wrap64 (now + y5))
        rw [HGE.out] at hdue
        obtain ⟨cs9, hcs9⟩ := RTab.blk80 HT11.out
        refine ⟨i + 1, by rw [Int.natCast_add]; rfl, ⟨by have := HK.out; omega⟩, ⟨?_⟩, ⟨?_⟩, ⟨?_⟩, ⟨HM3.out.trans hdue.2⟩⟩
        · rw [HTL.out]
          exact Kd.R_set HO3.out hcs9 (by decide) _ _
        · rw [HTQ.out]
          exact Kd.R_set HQ3.out hcs9 (by decide) _ _
        · rw [HSU.out]
          exact hdue.1
      · go_wp2_with fail
        refine Cu.handed (n - (i + 1)) (by have := HK.out; omega) (by assumption) ?_ (by kernel_rfl) (by kernel_rfl)
        try dsimp only [Cu.pick, Cu.rep, Cu.nth]
        have hno : hit s now ⟨y3, y4, y3, y4, y5, y6, y7⟩ = false := by unfold hit; simp; omega
        exact ⟨i + 1, by rw [Int.natCast_add]; rfl, ⟨by have := HK.out; omega⟩, ⟨by rw [HTL.out, hno, if_neg (by decide), List.append_nil]; exact HO.out⟩, ⟨by rw [HTQ.out, hno, if_neg (by decide), List.append_nil]; exact HQ.out⟩, ⟨by rw [HSA.out hno]; exact HTb.out⟩, ⟨HM.out⟩⟩
    · go_wp2_with fail
      refine Cu.handed (n - (i + 1)) (by have := HK.out; omega) (by assumption) ?_ (by kernel_rfl) (by kernel_rfl)
      try dsimp only [Cu.pick, Cu.rep, Cu.nth]
      have hno : hit s now ⟨y3, y4, y3, y4, y5, y6, y7⟩ = false := by unfold hit; simp; omega
      exact ⟨i + 1, by rw [Int.natCast_add]; rfl, ⟨by have := HK.out; omega⟩, ⟨by rw [HTL.out, hno, if_neg (by decide), List.append_nil]; exact HO.out⟩, ⟨by rw [HTQ.out, hno, if_neg (by decide), List.append_nil]; exact HQ.out⟩, ⟨by rw [HSA.out hno]; exact HTb.out⟩, ⟨HM.out⟩⟩
  · go_wp2
    go_ret2
    obtain rfl : i = n := by have := HK.out; omega
    exact ⟨_, _, _, rfl, (HF.out _ _ ⟨HO.out, HTb.out⟩).1, (HF.out _ _ ⟨HO.out, HTb.out⟩).2, HM.out⟩
end Go.Proofs.Ytfdfnmlbmijdjaa.Rt

/-
  Walks of the page's own table (gimbalref26): Needing, Drop.
  No conditions.
-/
namespace Go.Proofs.Ytfdfnmlbmijdjaa.Rt
open Go.RowKit Go.Lib Go.Proofs.YtfdfnmlbmijdjaaW.PrintWords Go.Proofs.YtfdfnmlbmijdjaaW.PrintLast Go.Proofs.YtfdfnmlbmijdjaaW.PrintMore
set_option linter.unusedVariables false
set_option linter.unusedSimpArgs false
theorem in_f (l : List Int) (x : Int) (hl : l.length < 1099511627776) : ∃ k, gimbalref0_In.f k l x = some (decide (x ∈ l)) := by
  have h : ∀ d j : Nat, j + d = l.length → gimbalref0_In.l0 (d + 1) l x (j : Int) = some (decide (x ∈ l.drop j)) := by
    intro d
    induction d with
    | zero =>
      intro j hj
      simp only [gimbalref0_In.l0]
      rw [if_neg (by omega), List.drop_of_length_le (by omega)]
      simp
    | succ d ih =>
      intro j hj
      rw [gimbalref0_In.l0]
      rw [if_pos (by omega), if_pos (by omega), List.drop_eq_getElem_cons (show j < l.length by omega)]
      have hr : rd l (j : Int) = l[j]'(by omega) := by
        unfold rd
        rw [Int.toNat_natCast, List.getD_eq_getElem?_getD, List.getElem?_eq_getElem (show j < l.length by omega)]
        rfl
      rw [hr]
      split
      · rename_i h
        simp [h]
      · rename_i h
        rw [show wrap64 ((j : Int) + 1) = ((j + 1 : Nat) : Int) by unfold wrap64; omega, ih (j + 1) (by omega)]
        congr 1
        apply decide_eq_decide.2
        rw [List.mem_cons]
        constructor
        · exact .inr
        · rintro (e | e)
          · exact absurd e.symm h
          · exact e
  exact ⟨l.length + 1, by unfold gimbalref0_In.f; have := h l.length 0 (by omega); simpa using this⟩
theorem ndR_f (s dev : Int) (hd : 1 ≤ dev ∧ dev ≤ 5) : ∃ l, gimbalref26_Needs.f 20 s = some l ∧ l.length < 10 ∧ (dev ∈ l ↔ dev ∈ nd s) := by
  by_cases h : 6 ≤ s ∧ s ≤ 15
  · have h2 : s = 6 ∨ s = 7 ∨ s = 8 ∨ s = 9 ∨ s = 10 ∨ s = 11 ∨ s = 12 ∨ s = 13 ∨ s = 14 ∨ s = 15 := by omega
    refine ⟨nd s, ?_, ?_, Iff.rfl⟩
    · rcases h2 with rfl | rfl | rfl | rfl | rfl | rfl | rfl | rfl | rfl | rfl <;> kernel_rfl
    · unfold nd
      (repeat' split) <;> simp
  · refine ⟨[s], ?_, by simp, ?_⟩
    · have e : ∀ q : Int, 6 ≤ q → q ≤ 15 → (s == q) = false := fun q h1 h2 => by rw [beq_eq_false_iff_ne]; omega
      unfold gimbalref26_Needs.f
      rw [if_neg (by omega), e 9 (by decide) (by decide), gimbalref26_Needs.j0, if_neg (by decide), if_neg (by omega), if_neg (by omega), e 14 (by decide) (by decide), gimbalref26_Needs.j1, if_neg (by decide), if_neg (by omega), if_neg (by omega), if_neg (by omega), if_neg (by omega), if_neg (by omega)]
    · unfold nd
      rw [if_neg (by omega), if_neg (by omega), if_neg (by omega), if_neg (by omega)]
      split
      · rfl
      · rw [List.mem_singleton]
        constructor
        · intro e
          omega
        · intro e
          cases e
set_option maxHeartbeats 8000000 in
set_option maxRecDepth 100000 in
theorem rneeding_ (base g : Nat) (v : Value) (E : List Ent) (dev : Int) (W : World) (h : RTab base W g v E) (hsz : E.length < 1099511627776) (hd : 1 ≤ dev ∧ dev ≤ 5) (ho : Own E) : Calls Try.prog 23 #[.pointer (some ⟨g, 0, none⟩), .int .i64 dev] W fun e w' => ∃ v', e = .returned v' ∧ Kd.R (Kd.int .i64) 3 w' W.heap.size (fun _ => True) v' (needL E dev) ∧ Below W.heap.size W w' := by
  obtain ⟨A, c, rfl⟩ := h.slice
  have hg : g < W.heap.size := blk_lt h.1
  have hcell : ∀ i, i < E.length → ∃ b, A = some ⟨b, 0, none⟩ ∧ b < W.heap.size ∧ E.length ≤ c ∧ ∀ k u, (encE E[i]!)[k]? = some u → W.cell? ⟨b, i * 5 + k, none⟩ = some u := fun i hi => by
    obtain ⟨b, rfl, hbc, _, _, hbl⟩ := h.block (by omega)
    exact ⟨b, rfl, hbl, hbc, fun k u hu => h.cells i hi k u hu⟩
  have hgc : ∀ w', Below W.heap.size W w' → w'.cell? ⟨g, 0, none⟩ = some (.slice A E.length c) := fun w' hb => (hb.cell hg).trans ((blk_cell h.1 0).trans rfl)
  have HC := Lib.hid hcell
  have HGC := Lib.hid hgc
  have HOW := Lib.hid ho
  obtain ⟨n, hn⟩ : ∃ n, n = E.length := ⟨_, rfl⟩
  rw [← hn] at HC HGC hsz
  have HN := Lib.hid hn
  have HD := Lib.hid hd
  clear h hcell hn hd ho hgc
  go_enter Try.func23, Try.ntmps23
  go_wp2_with fail
  refine Cu.wp_loop (Cu.rep 5 Cu.f (Cu.rep 49 Cu.t (Cu.rep 1 Cu.f []))) 49 (fun kq us_ w' => ∃ i : Nat, (Cu.nth us_ 1) = .int .i64 (i : Int) ∧ Aside0 (kq + i = n) ∧ Aside0 (Kd.R (Kd.int .i64) 3 w' W.heap.size (fun _ => True) (Cu.nth us_ 0) (needL (E.take i) dev)) ∧ Aside0 (Below W.heap.size W w')) n ?_ (by kernel_rfl) (by kernel_rfl) ?_
  · try dsimp only [Cu.pick, Cu.rep, Cu.nth]
    exact ⟨0, rfl, ⟨rfl⟩, ⟨Kd.R_nil _ _ _ _ _⟩, ⟨Below.refl _ _⟩⟩
  · intro gk wr u5 u6 u7 u8 u9 u10 u11 u12 u13 u14 u15 u16 u17 u18 u19 u20 u21 u22 u23 u24 u25 u26 u27 u28 u29 u30 u31 u32 u33 u34 u35 u36 u37 u38 u39 u40 u41 u42 u43 u44 u45 u46 u47 u48 u49 u50 u51 u52 u53
    try dsimp only [Cu.over, Cu.rep, Cu.nth]
    intro hrel _ _ _ _
    obtain ⟨i, rfl, HK, HO, HB⟩ := hrel
    have cg := HGC.out wr HB.out
    by_cases hi : i < n
    · obtain ⟨b, rfl, hbl, hbc, hcl⟩ := HC.out i (by have := HN.out; omega)
      have hcl' : ∀ k u, (encE E[i]!)[k]? = some u → wr.cell? ⟨b, i * 5 + k, none⟩ = some u := fun k u hu => (HB.out.cell hbl).trans (hcl k u hu)
      have htk := needL_succ E dev i (by have := HN.out; omega)
      have hlen := needL_len (E.take i) dev
      rw [List.length_take] at hlen
      have hown := HOW.out E[i]! (by rw [getElem!_pos E i (by have := HN.out; omega)]; exact List.getElem_mem (by have := HN.out; omega))
      generalize hy : E[i]! = y at hcl' htk hown
      obtain ⟨y1, y2, y3, y4, y5, y6, y7⟩ := y
      obtain ⟨h3, h4⟩ : y3 = y1 ∧ y4 = y2 := hown
      subst h3 h4
      have c0 : wr.cell? ⟨b, i * 5, none⟩ = some (.int .i64 y3) := hcl' 0 _ rfl
      have c1 : wr.cell? ⟨b, i * 5 + 1, none⟩ = some (.int .i64 y4) := hcl' 1 _ rfl
      have hii : (i : Int) < (n : Int) := by omega
      obtain ⟨acc, hacc⟩ : ∃ acc, acc = needL (E.take i) dev := ⟨_, rfl⟩
      rw [← hacc] at HO htk hlen
      obtain ⟨l9, hnd, hl9l, hiff⟩ := ndR_f y4 dev HD.out
      unfold needStep at htk
      dsimp only at htk
      have hiff2 : decide (dev ∈ nd y4) = decide (dev ∈ l9) := decide_eq_decide.2 hiff.symm
      rw [hiff2] at htk
      have HT := Lib.hid htk
      clear htk hiff2
      obtain ⟨k1, hk1⟩ := in_f l9 dev (by omega)
      obtain ⟨k2, hk2⟩ := in_f acc y3 (by omega)
      have HX := Lib.hid (show (acc.length + 1) * 8 ≤ 140737488355328 from by omega)
      have HND := Lib.hid hnd
      have HK1 := Lib.hid hk1
      have HK2 := Lib.hid hk2
      clear hcl hcl' hy hi hacc hlen hiff hl9l hnd hk1 hk2
      obtain ⟨A6, c6, rfl⟩ := Kd.R_slice HO.out
      by_cases hA : dev ∈ l9
      · rw [decide_eq_true hA] at HK1 HT
        by_cases hB : y3 ∈ acc
        · rw [decide_eq_true hB] at HK2 HT
          go_wp2_with (first | (go_at_call 37; with_reducible refine (gimbalref26_Needs.calls 20 y4 l9 _ HND.out).mono ?_; rintro e w5 ⟨v5, rfl, ho5, hb5⟩; obtain ⟨A5, c5, rfl⟩ := Kd.R_slice ho5; have HB5 := Aside0.mk hb5; have HO5 := Aside0.mk ho5; have HO2 := Aside0.mk (Kd.R_below HO.out hb5); have HB2 := Aside0.mk (below_step HB.out hb5); have d0 := pw_cell_below hb5 c0; have dg := pw_cell_below hb5 cg; clear hb5 ho5) | (go_at_call 13; with_reducible refine (gimbalref0_In.calls k1 A5 c5 l9 dev _ _ (Kd.R_reads' HO5.out).2.2 (Kd.R_reads' HO5.out).2.1 HK1.out).mono ?_; rintro e w6 ⟨rfl, nd5, rfl⟩) | (go_at_call 13; with_reducible refine (gimbalref0_In.calls k2 A6 c6 acc y3 _ _ (Kd.R_reads' (Kd.R_drewN HO2.out _)).2.2 (Kd.R_reads' HO2.out).2.1 HK2.out).mono ?_; rintro e w7 ⟨rfl, nd6, rfl⟩))
          refine Cu.handed (n - (i + 1)) (by have := HK.out; omega) (by assumption) ?_ (by kernel_rfl) (by kernel_rfl)
          try dsimp only [Cu.pick, Cu.rep, Cu.nth]
          exact ⟨i + 1, by rw [Int.natCast_add]; rfl, ⟨by have := HK.out; omega⟩, ⟨by rw [HT.out]; exact Kd.R_drewN HO2.out _⟩, ⟨pw_below_drewN HB2.out _⟩⟩
        · rw [decide_eq_false hB] at HK2 HT
          go_wp2_with (first | (go_at_call 37; with_reducible refine (gimbalref26_Needs.calls 20 y4 l9 _ HND.out).mono ?_; rintro e w5 ⟨v5, rfl, ho5, hb5⟩; obtain ⟨A5, c5, rfl⟩ := Kd.R_slice ho5; have HB5 := Aside0.mk hb5; have HO5 := Aside0.mk ho5; have HO2 := Aside0.mk (Kd.R_below HO.out hb5); have HB2 := Aside0.mk (below_step HB.out hb5); have d0 := pw_cell_below hb5 c0; have dg := pw_cell_below hb5 cg; clear hb5 ho5) | (go_at_call 13; with_reducible refine (gimbalref0_In.calls k1 A5 c5 l9 dev _ _ (Kd.R_reads' HO5.out).2.2 (Kd.R_reads' HO5.out).2.1 HK1.out).mono ?_; rintro e w6 ⟨rfl, nd5, rfl⟩) | (go_at_call 13; with_reducible refine (gimbalref0_In.calls k2 A6 c6 acc y3 _ _ (Kd.R_reads' (Kd.R_drewN HO2.out _)).2.2 (Kd.R_reads' HO2.out).2.1 HK2.out).mono ?_; rintro e w7 ⟨rfl, nd6, rfl⟩) | (at_builtin; refine Kd.R_append (Kd.int .i64) (w0 := W) W.heap.size rfl (.tmp 42) (.tmp 52) 36 3 (.int .i64 0) 8 rfl Try.underlying36 info3 rfl (by decide) (by omega) (.slice A6 acc.length c6) acc y3 [.int .i64 y3] (fun _ => True) (fun _ => False) rfl (by simp [Act.eval]) ?aP (fun _ hk => hk.elim) ?aF ?aO ?aB ?aS ?aL ?_; (case aP => rfl); (case aF => exact (fun _ _ => trivial)); (case aO => exact Kd.R_drewN HO2.out _); (case aB => exact pw_below_drewN HB2.out _); (case aS => exact below_size (pw_below_drewN HB2.out _)); (case aL => have := HX.out; omega); intro v1 w10 ho hb hgr hat; have HO3 := Aside0.mk ho; have HB3 := Aside0.mk hb; clear ho hb hgr hat))
          refine Cu.handed (n - (i + 1)) (by have := HK.out; omega) (by assumption) ?_ (by kernel_rfl) (by kernel_rfl)
          try dsimp only [Cu.pick, Cu.rep, Cu.nth]
          exact ⟨i + 1, by rw [Int.natCast_add]; rfl, ⟨by have := HK.out; omega⟩, ⟨by rw [HT.out]; exact HO3.out⟩, ⟨HB3.out⟩⟩
      · rw [decide_eq_false hA] at HK1 HT
        go_wp2_with (first | (go_at_call 37; with_reducible refine (gimbalref26_Needs.calls 20 y4 l9 _ HND.out).mono ?_; rintro e w5 ⟨v5, rfl, ho5, hb5⟩; obtain ⟨A5, c5, rfl⟩ := Kd.R_slice ho5; have HB5 := Aside0.mk hb5; have HO5 := Aside0.mk ho5; have HO2 := Aside0.mk (Kd.R_below HO.out hb5); have HB2 := Aside0.mk (below_step HB.out hb5); have d0 := pw_cell_below hb5 c0; have dg := pw_cell_below hb5 cg; clear hb5 ho5) | (go_at_call 13; with_reducible refine (gimbalref0_In.calls k1 A5 c5 l9 dev _ _ (Kd.R_reads' HO5.out).2.2 (Kd.R_reads' HO5.out).2.1 HK1.out).mono ?_; rintro e w6 ⟨rfl, nd5, rfl⟩))
        refine Cu.handed (n - (i + 1)) (by have := HK.out; omega) (by assumption) ?_ (by kernel_rfl) (by kernel_rfl)
        try dsimp only [Cu.pick, Cu.rep, Cu.nth]
        exact ⟨i + 1, by rw [Int.natCast_add]; rfl, ⟨by have := HK.out; omega⟩, ⟨by rw [HT.out]; exact Kd.R_drewN HO2.out _⟩, ⟨pw_below_drewN HB2.out _⟩⟩
    · go_wp2
      go_ret
      refine ⟨_, rfl, ?_, HB.out⟩
      have he : E.take i = E := List.take_of_length_le (by have := HN.out; omega)
      have := HO.out
      rw [he] at this
      exact this
end Go.Proofs.Ytfdfnmlbmijdjaa.Rt

/-
  Walks of the page's own table (gimbalref26): Drop.
  No conditions.
-/
namespace Go.Proofs.Ytfdfnmlbmijdjaa.Rt
open Go.RowKit Go.Lib Go.Proofs.YtfdfnmlbmijdjaaW.PrintWords Go.Proofs.YtfdfnmlbmijdjaaW.PrintLast Go.Proofs.YtfdfnmlbmijdjaaW.PrintMore
set_option linter.unusedVariables false
set_option linter.unusedSimpArgs false
theorem rem_split : ∀ {E : Tb} {a b : Int} (i : Nat) (hi : i < E.length), (∀ j, j < i → eqK E[j]! a b = false) → eqK E[i]! a b = true → Tb.rem E a b = E.take i ++ E.drop (i + 1) ∧ Tb.has E a b = true
  | [], _, _, i, hi, _, _ => by simp at hi
  | x :: r, a, b, 0, _, _, h => by
    have h' : eqK x a b = true := h
    refine ⟨?_, ?_⟩
    · show (if eqK x a b then r else x :: Tb.rem r a b) = _
      rw [h', if_pos rfl]
      rfl
    · show (eqK x a b || Tb.has r a b) = true
      rw [h']
      rfl
  | x :: r, a, b, i + 1, hi, hl, h => by
    have h0 : eqK x a b = false := hl 0 (by omega)
    obtain ⟨e1, e2⟩ := rem_split (E := r) i (by simpa using hi) (fun j hj => hl (j + 1) (by omega)) h
    refine ⟨?_, ?_⟩
    · show (if eqK x a b then r else x :: Tb.rem r a b) = _
      rw [h0, if_neg (by decide), e1]
      rfl
    · show (eqK x a b || Tb.has r a b) = true
      rw [e2, Bool.or_true]
theorem has_none {E : Tb} {a b : Int} (h : ∀ j, j < E.length → eqK E[j]! a b = false) : Tb.has E a b = false := by
  unfold Tb.has
  rw [List.any_eq_false]
  intro x hx
  obtain ⟨j, hj, rfl⟩ := List.getElem_of_mem hx
  have := h j hj
  rw [getElem!_pos E j hj] at this
  rw [this]
  simp
theorem kE_K {w : World} {base : Nat} {ok : Nat → Prop} {x : Ent} {cs : List Value} (h : kE.K w x cs) : kE.M w base ok x cs := by
  obtain ⟨_, _, rfl, rfl, ⟨_, _, rfl, rfl, ⟨_, _, rfl, rfl, ⟨_, _, rfl, rfl, rfl⟩⟩⟩⟩ := h
  exact kE_mkM _ _ _ _
/-- A row made since, stored into the table. -/
theorem RTab.stored {base : Nat} {W w : World} {g : Nat} {v v1 : Value} {E E1 : List Ent} (h : RTab base W g v E) (hb : Below W.heap.size W w) (hr : Kd.R kE 80 w base (fun _ => True) v1 E1) : RTab base (w.setCell ⟨g, 0, none⟩ v1) g v1 E1 ∧ RMov base W (w.setCell ⟨g, 0, none⟩ v1) g ∧ w.cell? ⟨g, 0, none⟩ = some v ∧ w.frozen? ⟨g, 0, none⟩ = false := by
  have hg : g < W.heap.size := blk_lt h.1
  have h1 : w.heap[g]? = some (.cells #[v] 49 (0, 0)) := (hb.block g hg).trans h.1
  refine ⟨⟨?_, Kd.R_set hr h1 (by decide) 0 v1⟩, ⟨hb.os, hb.tape, hb.output, ?_, fun k hk hkg _ => (Below.heap_setCell _ _ _ _ hkg).trans (hb.block k hk)⟩, (blk_cell h1 0).trans rfl, by simp [World.frozen?, h1]⟩
  · simp [World.setCell, Array.getElem?_modify, h1]
  · have := hb.size
    simp [World.setCell]
    exact this
theorem below_grown1 {w w1 : World} {v : Value} (hg : w.grownBy w1 v.ownBlock) (hv : v.ownBlock = none) : Below w.heap.size w w1 := ⟨hg.os, hg.tape, hg.output, hg.size, fun k hk => hg.block k hk (by rw [hv]; simp)⟩
theorem below_grown2 {W w w1 : World} {v : Value} (hb : Below W.heap.size W w) (hg : w.grownBy w1 v.ownBlock) (hv : ∀ k, v.ownBlock = some k → W.heap.size ≤ k) : Below W.heap.size W w1 := ⟨hg.os.trans hb.os, hg.tape.trans hb.tape, hg.output.trans hb.output, Nat.le_trans hb.size hg.size, fun k hk => (hg.block k (Nat.lt_of_lt_of_le hk hb.size) (fun e => by have := hv k e.symm; omega)).trans (hb.block k hk)⟩
theorem new_of_at {w : World} {v v1 : Value} (hv : v.ownBlock = none) (hat : v1.ownBlock = v.ownBlock ∨ ∃ b, v1.ownBlock = some b ∧ w.heap.size ≤ b) : ∀ k, v1.ownBlock = some k → w.heap.size ≤ k := fun k hk => by
  rcases hat with e | ⟨b, e, hb⟩
  · rw [e, hv] at hk; cases hk
  · rw [e] at hk
    injection hk with hk
    omega
set_option maxHeartbeats 16000000 in
set_option maxRecDepth 100000 in
theorem rdrop_ (base g : Nat) (v : Value) (E : List Ent) (a b : Int) (W : World) (h : RTab base W g v E) (hbase : base ≤ W.heap.size) (hsz : E.length < 1099511627776) (ho : Own E) : Calls Try.prog 18 #[.pointer (some ⟨g, 0, none⟩), .int .i64 a, .int .i64 b] W fun e w' => ∃ v1, e = .returned (.bool (Tb.has E a b)) ∧ RTab base w' g v1 (Tb.rem E a b) ∧ RMov base W w' g := by
  obtain ⟨A, c, rfl⟩ := h.slice
  have hg : g < W.heap.size := blk_lt h.1
  have hcell : ∀ i, i < E.length → ∃ b, A = some ⟨b, 0, none⟩ ∧ b < W.heap.size ∧ E.length ≤ c ∧ ∀ k u, (encE E[i]!)[k]? = some u → W.cell? ⟨b, i * 5 + k, none⟩ = some u := fun i hi => by
    obtain ⟨b, rfl, hbc, _, _, hbl⟩ := h.block (by omega)
    exact ⟨b, rfl, hbl, hbc, fun k u hu => h.cells i hi k u hu⟩
  have hgc : W.cell? ⟨g, 0, none⟩ = some (.slice A E.length c) := (blk_cell h.1 0).trans rfl
  have HC := Lib.hid hcell
  have HOW := Lib.hid ho
  have H0 := Lib.hid h
  obtain ⟨n, hn⟩ : ∃ n, n = E.length := ⟨_, rfl⟩
  rw [← hn] at HC hgc hsz H0
  have HN := Lib.hid hn
  have HBS := Lib.hid hbase
  clear h hcell hn ho hbase
  go_enter Try.func18, Try.ntmps18
  go_wp2_with fail
  refine Cu.wp_loop (Cu.rep 7 Cu.f (Cu.rep 55 Cu.t [])) 55 (fun kq us_ w' => ∃ i : Nat, (Cu.nth us_ 0) = .int .i64 (i : Int) ∧ Aside0 (kq + i = n) ∧ w' = W ∧ Aside0 (∀ j, j < i → eqK E[j]! a b = false)) n ?_ (by kernel_rfl) (by kernel_rfl) ?_
  · try dsimp only [Cu.pick, Cu.rep, Cu.nth]
    exact ⟨0, rfl, ⟨rfl⟩, rfl, ⟨fun j hj => by omega⟩⟩
  · intro gk wr u7 u8 u9 u10 u11 u12 u13 u14 u15 u16 u17 u18 u19 u20 u21 u22 u23 u24 u25 u26 u27 u28 u29 u30 u31 u32 u33 u34 u35 u36 u37 u38 u39 u40 u41 u42 u43 u44 u45 u46 u47 u48 u49 u50 u51 u52 u53 u54 u55 u56 u57 u58 u59 u60 u61
    try dsimp only [Cu.over, Cu.rep, Cu.nth]
    intro hrel _ _ _ _
    obtain ⟨i, rfl, HK, rfl, HI⟩ := hrel
    by_cases hi : i < n
    · obtain ⟨b1, rfl, hbl, hbc, hcl⟩ := HC.out i hi
      have hiE : i < E.length := by have := HN.out; omega
      have hown := HOW.out E[i]! (by rw [getElem!_pos E i hiE]; exact List.getElem_mem hiE)
      have hkey : eqK E[i]! a b = true ↔ E[i]!.c = a ∧ E[i]!.s = b := eqK_iff
      have c0 : wr.cell? ⟨b1, i * 5, none⟩ = some (.int .i64 E[i]!.c) := by rw [← hown.1]; exact hcl 0 _ rfl
      have c1 : wr.cell? ⟨b1, i * 5 + 1, none⟩ = some (.int .i64 E[i]!.s) := by rw [← hown.2]; exact hcl 1 _ rfl
      obtain ⟨y1, hy1⟩ : ∃ y, y = E[i]!.c := ⟨_, rfl⟩
      obtain ⟨y2, hy2⟩ : ∃ y, y = E[i]!.s := ⟨_, rfl⟩
      rw [← hy1] at c0 hkey
      rw [← hy2] at c1 hkey
      have hii : (i : Int) < (n : Int) := by omega
      by_cases hA : y1 = a
      · by_cases hB : y2 = b
        · have hsp := rem_split i hiE HI.out (hkey.2 ⟨hA, hB⟩)
          have hw1 : IntKind.i64.wrap ((i : Int) + 1) = (i : Int) + 1 := by rw [IntKind.wrap_i64]; omega
          have hq0 : (0 : Int) ≤ (i : Int) + 1 := by omega
          have hq1 : (i : Int) + 1 ≤ (n : Int) := by omega
          have hq2 : ((i : Int) + 1).toNat = i + 1 := by omega
          have HSP := Lib.hid hsp
          have hrd := Kd.R_reads' H0.out.2
          have hr1 : ∀ w', Below wr.heap.size wr w' → ReadsRow (kE.K w') kE.sz w' (some ⟨b1, 0, none⟩) i (E.take i) := fun w' hb => by
            have h1 := Kd.C_take (Kd.C_below hrd.2.2 hb) (m := i) (by omega)
            rw [List.length_take, Nat.min_eq_left (by omega)] at h1
            exact h1
          have hr2 : ∀ w', Below wr.heap.size wr w' → ReadsRow (kE.K w') kE.sz w' (if c = i + 1 then some ⟨b1, 0, none⟩ else some ⟨b1, (i + 1) * 5, none⟩) (n - (i + 1)) (E.drop (i + 1)) := fun w' hb => by
            have h1 := Kd.C_drop (Kd.C_below hrd.2.2 hb) (m := i + 1) (c := c) (by omega) (by omega)
            rw [List.length_drop, ← hrd.1] at h1
            have e : (Option.map (fun x : Addr => x.add ((i + 1) * kE.sz)) (some ⟨b1, 0, none⟩)) = some ⟨b1, (i + 1) * 5, none⟩ := by
              rw [Option.map_some, add_plain]
              rfl
            rw [e] at h1
            exact h1
          have HR1 := Lib.hid hr1
          have HR2 := Lib.hid hr2
          have HX := Lib.hid (show n * 40 ≤ 140737488355328 ∧ n = E.length ∧ i < n from ⟨by omega, hrd.1, hi⟩)
          clear hsp hkey hown hiE hcl hy1 hy2 hi hrd hr1 hr2
          by_cases hcap : c = i + 1
          · rw [if_pos hcap] at HR2
            go_wp2_with (first | (at_builtin; refine Kd.R_append_rows kE (w0 := wr) base rfl (.tmp 42) (.tmp 48) 47 80 (.agg #[.int .i64 0, .int .i64 0, .int .i64 0, .int .i64 0, .int .i64 0]) 40 rfl Try.underlying47 infoE rfl (by decide) (by omega) (.slice none 0 0) ([]) (E.take i) _ _ _ (fun _ => True) (fun _ => False) rfl rfl ?aO ?aR (fun _ _ h => kE_K h) (fun _ h => h.elim) ?aF ?aB ?aS ?aL ?_; (case aO => exact Kd.R_nil _ _ _ _ _); (case aR => exact HR1.out _ (Below.refl _ _)); (case aF => exact (fun _ _ => trivial)); (case aB => exact Below.refl _ _); (case aS => exact HBS.out); (case aL => have := HX.out; have h9 : (E.take i).length ≤ i := (by rw [List.length_take]; omega); first | omega | (simp only [List.length_nil]; omega)); intro v1 w1 ho hb hgr hat; have HB1 := Aside0.mk (below_grown1 hgr rfl); have HN1 := Aside0.mk (new_of_at (w := wr) (v := .slice none 0 0) rfl hat); have HO1 := Aside0.mk ho; have d0 := (HB1.out.cell (p := ⟨g, 0, none⟩) hg).trans hgc; clear ho hb hgr hat) | (at_builtin; refine Kd.R_append_rows kE (w0 := w1) base rfl (.tmp 51) (.tmp 58) 47 80 (.agg #[.int .i64 0, .int .i64 0, .int .i64 0, .int .i64 0, .int .i64 0]) 40 rfl Try.underlying47 infoE rfl (by decide) (by omega) (v1) (E.take i) (E.drop (i + 1)) _ _ _ (fun _ => True) (fun _ => False) rfl rfl ?aO ?aR (fun _ _ h => kE_K h) (fun _ h => h.elim) ?aF ?aB ?aS ?aL ?_; (case aO => exact HO1.out); (case aR => exact HR2.out _ HB1.out); (case aF => exact (fun _ _ => trivial)); (case aB => exact Below.refl _ _); (case aS => exact Nat.le_trans HBS.out HB1.out.size); (case aL => have := HX.out; have h9 : (E.take i).length ≤ i := (by rw [List.length_take]; omega); first | omega | (simp only [List.length_nil]; omega)); intro v2 w2 ho hb hgr hat; obtain ⟨A9, c9, e9⟩ := Kd.R_slice ho; obtain ⟨ln, hln⟩ : ∃ ln, ln = (E.take i ++ E.drop (i + 1)).length := ⟨_, rfl⟩; rw [← hln] at e9; clear hln; subst e9; have hB2 := below_grown2 HB1.out hgr HN1.out; have HST := Aside0.mk (RTab.stored H0.out hB2 ho); have f0 := HST.out.2.2.1; have ff := HST.out.2.2.2; clear ho hb hgr hat hB2))
            go_ret
            refine ⟨.slice A9 ln c9, by rw [HSP.out.2]; rfl, ?_, HST.out.2.1⟩
            rw [HSP.out.1]
            exact HST.out.1
          · rw [if_neg hcap] at HR2
            go_wp2_with (first | (at_builtin; refine Kd.R_append_rows kE (w0 := wr) base rfl (.tmp 42) (.tmp 48) 47 80 (.agg #[.int .i64 0, .int .i64 0, .int .i64 0, .int .i64 0, .int .i64 0]) 40 rfl Try.underlying47 infoE rfl (by decide) (by omega) (.slice none 0 0) ([]) (E.take i) _ _ _ (fun _ => True) (fun _ => False) rfl rfl ?aO ?aR (fun _ _ h => kE_K h) (fun _ h => h.elim) ?aF ?aB ?aS ?aL ?_; (case aO => exact Kd.R_nil _ _ _ _ _); (case aR => exact HR1.out _ (Below.refl _ _)); (case aF => exact (fun _ _ => trivial)); (case aB => exact Below.refl _ _); (case aS => exact HBS.out); (case aL => have := HX.out; have h9 : (E.take i).length ≤ i := (by rw [List.length_take]; omega); first | omega | (simp only [List.length_nil]; omega)); intro v1 w1 ho hb hgr hat; have HB1 := Aside0.mk (below_grown1 hgr rfl); have HN1 := Aside0.mk (new_of_at (w := wr) (v := .slice none 0 0) rfl hat); have HO1 := Aside0.mk ho; have d0 := (HB1.out.cell (p := ⟨g, 0, none⟩) hg).trans hgc; clear ho hb hgr hat) | (at_builtin; refine Kd.R_append_rows kE (w0 := w1) base rfl (.tmp 51) (.tmp 58) 47 80 (.agg #[.int .i64 0, .int .i64 0, .int .i64 0, .int .i64 0, .int .i64 0]) 40 rfl Try.underlying47 infoE rfl (by decide) (by omega) (v1) (E.take i) (E.drop (i + 1)) _ _ _ (fun _ => True) (fun _ => False) rfl rfl ?aO ?aR (fun _ _ h => kE_K h) (fun _ h => h.elim) ?aF ?aB ?aS ?aL ?_; (case aO => exact HO1.out); (case aR => exact HR2.out _ HB1.out); (case aF => exact (fun _ _ => trivial)); (case aB => exact Below.refl _ _); (case aS => exact Nat.le_trans HBS.out HB1.out.size); (case aL => have := HX.out; have h9 : (E.take i).length ≤ i := (by rw [List.length_take]; omega); first | omega | (simp only [List.length_nil]; omega)); intro v2 w2 ho hb hgr hat; obtain ⟨A9, c9, e9⟩ := Kd.R_slice ho; obtain ⟨ln, hln⟩ : ∃ ln, ln = (E.take i ++ E.drop (i + 1)).length := ⟨_, rfl⟩; rw [← hln] at e9; clear hln; subst e9; have hB2 := below_grown2 HB1.out hgr HN1.out; have HST := Aside0.mk (RTab.stored H0.out hB2 ho); have f0 := HST.out.2.2.1; have ff := HST.out.2.2.2; clear ho hb hgr hat hB2))
            go_ret
            refine ⟨.slice A9 ln c9, by rw [HSP.out.2]; rfl, ?_, HST.out.2.1⟩
            rw [HSP.out.1]
            exact HST.out.1
        · have HNK := Lib.hid (show eqK E[i]! a b = false from by cases hq : eqK E[i]! a b with | false => rfl | true => exact absurd (hkey.1 hq).2 hB)
          clear hkey hown hiE hcl hy1 hy2 hi
          go_wp2_with fail
          refine Cu.handed (n - (i + 1)) (by have := HK.out; omega) (by assumption) ?_ (by kernel_rfl) (by kernel_rfl)
          try dsimp only [Cu.pick, Cu.rep, Cu.nth]
          refine ⟨i + 1, by rw [Int.natCast_add]; rfl, ⟨by have := HK.out; omega⟩, rfl, ⟨fun j hj => ?_⟩⟩
          by_cases hji : j = i
          · subst hji
            exact HNK.out
          · exact HI.out j (by omega)
      · have HNK := Lib.hid (show eqK E[i]! a b = false from by cases hq : eqK E[i]! a b with | false => rfl | true => exact absurd (hkey.1 hq).1 hA)
        clear hkey hown hiE hcl hy1 hy2 hi
        go_wp2_with fail
        refine Cu.handed (n - (i + 1)) (by have := HK.out; omega) (by assumption) ?_ (by kernel_rfl) (by kernel_rfl)
        try dsimp only [Cu.pick, Cu.rep, Cu.nth]
        refine ⟨i + 1, by rw [Int.natCast_add]; rfl, ⟨by have := HK.out; omega⟩, rfl, ⟨fun j hj => ?_⟩⟩
        by_cases hji : j = i
        · subst hji
          exact HNK.out
        · exact HI.out j (by omega)
    · have hh := has_none (E := E) (a := a) (b := b) (fun j hj => HI.out j (by have := HN.out; have := HK.out; omega))
      have HH := Lib.hid hh
      have HRN := Lib.hid (rem_none hh)
      clear hh
      go_wp2
      go_ret
      refine ⟨.slice A n c, by rw [HH.out]; rfl, by rw [HRN.out]; exact H0.out, RMov.refl _ _ _⟩
end Go.Proofs.Ytfdfnmlbmijdjaa.Rt

/-
  Walks of the page's own table (gimbalref26): Add.
  No conditions.
-/
namespace Go.Proofs.Ytfdfnmlbmijdjaa.Rt
open Go.RowKit Go.Lib Go.Proofs.YtfdfnmlbmijdjaaW.PrintWords Go.Proofs.YtfdfnmlbmijdjaaW.PrintLast Go.Proofs.YtfdfnmlbmijdjaaW.PrintMore
set_option linter.unusedVariables false
set_option linter.unusedSimpArgs false
theorem add_end : ∀ {E : Tb} {a b p q : Int}, (∀ j, j < E.length → ltK E[j]! a b = true) → Tb.add E a b p q = E ++ [⟨a, b, a, b, p, q, 0⟩]
  | [], _, _, _, _, _ => rfl
  | x :: r, a, b, p, q, h => by
    have h0 : ltK x a b = true := h 0 (by simp)
    have ih := add_end (E := r) (p := p) (q := q) (fun j hj => h (j + 1) (by simpa using hj))
    show (if ltK x a b then x :: Tb.add r a b p q else _) = _
    rw [h0, if_pos rfl, ih]
    rfl
theorem add_at : ∀ {E : Tb} {a b p q : Int} (i : Nat) (hi : i < E.length), (∀ j, j < i → ltK E[j]! a b = true) → ltK E[i]! a b = false → Tb.add E a b p q = E.take i ++ (if eqK E[i]! a b then ⟨E[i]!.c, E[i]!.s, a, b, p, q, E[i]!.d⟩ :: E.drop (i + 1) else ⟨a, b, a, b, p, q, 0⟩ :: E.drop i)
  | [], _, _, _, _, i, hi, _, _ => by simp at hi
  | x :: r, a, b, p, q, 0, _, _, h => by
    have h' : ltK x a b = false := h
    show (if ltK x a b then _ else _) = _
    rw [h', if_neg (by decide)]
    rfl
  | x :: r, a, b, p, q, i + 1, hi, hl, h => by
    have h0 : ltK x a b = true := hl 0 (by omega)
    have ih := add_at (E := r) (p := p) (q := q) i (by simpa using hi) (fun j hj => hl (j + 1) (by omega)) h
    show (if ltK x a b then x :: Tb.add r a b p q else _) = _
    rw [h0, if_pos rfl, ih]
    rfl
theorem before_f (a b p q c d u v : Int) : gimbalref26_before.f a b p q c d u v = some (decide (ord a b c d < 0)) := by
  unfold gimbalref26_before.f
  by_cases h1 : a < c
  · rw [if_pos h1, decide_eq_true ((ord_neg _ _ _ _).2 (.inl h1))]
  · by_cases h2 : a = c
    · rw [if_neg h1, if_pos h2]
      congr 1
      apply decide_eq_decide.2
      rw [ord_neg]
      omega
    · rw [if_neg h1, if_neg h2, decide_eq_false]
      rw [ord_neg]
      omega
theorem RTab.form {base : Nat} {w : World} {g n c : Nat} {A : Option Addr} {E : List Ent} (h : RTab base w g (.slice A n c) E) : (A = none ∧ c = 0 ∧ E.length = 0) ∨ ∃ b, A = some ⟨b, 0, none⟩ := by
  obtain ⟨inner, ho⟩ := Kd.R_own h.2
  rcases ho.2 with ⟨hv, h0⟩ | ⟨b, cap, cur, hv, _⟩
  · injection hv with h1 h2 h3
    exact .inl ⟨h1, h3, h0⟩
  · injection hv with h1 h2 h3
    exact .inr ⟨b, h1⟩
theorem len_snoc (E : List Ent) (i : Nat) (y : Ent) : (E.take i ++ [y]).length ≤ i + 1 := by
  rw [List.length_append, List.length_take]
  simp
  omega
theorem own_notin {w : World} {base : Nat} {v : Value} {E : List Ent} (h : Kd.R kE 80 w base (fun _ => True) v E) (m : Nat) (hv : ∀ k, v.ownBlock = some k → m < k) : Kd.R kE 80 w base (fun k => True ∧ k ≠ m) v E := by
  obtain ⟨h0, inner, ho, hr⟩ := h
  refine ⟨fun k hk => ⟨trivial, fun e => ?_⟩, inner, ho, hr.imp_ (fun p cs hp => by rw [kE_openM hp]; exact kE_mkM _ _ _ _)⟩
  have := hv k hk
  omega
theorem keep_blk {w w1 : World} {v : Value} {m k : Nat} {o : Obj} (hg : w.grownBy w1 v.ownBlock) (hv : ∀ k, v.ownBlock = some k → m ≤ k) (hb : w.heap[k]? = some o) (hk : k < m) : w1.heap[k]? = some o :=
  (hg.block k (blk_lt hb) (fun e => by have := hv k e.symm; omega)).trans hb
theorem new_of_old2 {w : World} {v v1 : Value} {m : Nat} (hm : m ≤ w.heap.size) (hv : ∀ k, v.ownBlock = some k → m ≤ k) (hat : v1.ownBlock = v.ownBlock ∨ ∃ b, v1.ownBlock = some b ∧ w.heap.size ≤ b) : ∀ k, v1.ownBlock = some k → m ≤ k := fun k hk => by
  rcases hat with e | ⟨b, e, hb⟩
  · rw [e] at hk; exact hv k hk
  · rw [e] at hk
    injection hk with hk
    omega
theorem new_of_old {W w : World} {v v1 : Value} (hb : Below W.heap.size W w) (hv : ∀ k, v.ownBlock = some k → W.heap.size ≤ k) (hat : v1.ownBlock = v.ownBlock ∨ ∃ b, v1.ownBlock = some b ∧ w.heap.size ≤ b) : ∀ k, v1.ownBlock = some k → W.heap.size ≤ k := new_of_old2 hb.size hv hat
set_option maxHeartbeats 16000000 in
set_option maxRecDepth 100000 in
theorem radd_ (base g : Nat) (v : Value) (E : List Ent) (a b p q : Int) (W : World) (h : RTab base W g v E) (hbase : base ≤ W.heap.size) (hsz : E.length < 1099511627776) (ho : Own E) (hs : Srt E) : Calls Try.prog 25 #[.pointer (some ⟨g, 0, none⟩), .agg #[.int .i64 a, .int .i64 b, .int .i64 p, .int .i64 q]] W fun e w' => ∃ v1, e = .returned (.tuple #[]) ∧ RTab base w' g v1 (Tb.add E a b p q) ∧ RMov base W w' g := by
  obtain ⟨A, c, rfl⟩ := h.slice
  have hg : g < W.heap.size := blk_lt h.1
  have hcell : ∀ i, i < E.length → ∃ b, A = some ⟨b, 0, none⟩ ∧ b < W.heap.size ∧ E.length ≤ c ∧ ∀ k u, (encE E[i]!)[k]? = some u → W.cell? ⟨b, i * 5 + k, none⟩ = some u := fun i hi => by
    obtain ⟨b, rfl, hbc, _, _, hbl⟩ := h.block (by omega)
    exact ⟨b, rfl, hbl, hbc, fun k u hu => h.cells i hi k u hu⟩
  have hgc : ∀ w', Below W.heap.size W w' → w'.cell? ⟨g, 0, none⟩ = some (.slice A E.length c) := fun w' hb => (hb.cell hg).trans ((blk_cell h.1 0).trans rfl)
  have hAf : (A = none ∧ c = 0 ∧ E.length = 0) ∨ ∃ b, A = some ⟨b, 0, none⟩ := RTab.form h
  have HC := Lib.hid hcell
  have HGC := Lib.hid hgc
  have HOW := Lib.hid ho
  have H0 := Lib.hid h
  obtain ⟨n, hn⟩ : ∃ n, n = E.length := ⟨_, rfl⟩
  rw [← hn] at HC HGC hsz H0 hAf
  have HN := Lib.hid hn
  have HBS := Lib.hid hbase
  clear h hcell hn ho hbase hgc hs
  have mixed : Try.prog.follows Departure.mixedOrders = true := by kernel_rfl
  go_enter Try.func25, Try.ntmps25
  go_wp2_with fail
  refine Cu.wp_loop (Cu.rep 5 Cu.f (Cu.rep 2 Cu.t (Cu.rep 2 Cu.f (Cu.rep 31 Cu.t (Cu.rep 46 Cu.f []))))) 33 (fun kq us_ w' => ∃ i : Nat, (Cu.nth us_ 1) = .int .i64 (i : Int) ∧ Aside0 (kq + i = n) ∧ Aside0 (∀ j, j < i → ltK E[j]! a b = true) ∧ Aside0 (Kd.R kE 80 w' base (fun _ => True) (Cu.nth us_ 0) (E.take i)) ∧ Aside0 (∀ k, (Cu.nth us_ 0).ownBlock = some k → W.heap.size + 2 ≤ k) ∧ Aside0 (w'.heap[W.heap.size]? = some (.cells #[.int .i64 a, .int .i64 b, .int .i64 p, .int .i64 q] 29 (0, 0))) ∧ Aside0 (w'.heap[W.heap.size + 1]? = some (.cells #[.int .i64 a, .int .i64 b, .int .i64 p, .int .i64 q, .int .i64 0] 80 (0, 0))) ∧ Aside0 (Below W.heap.size W w')) n ?_ (by kernel_rfl) (by kernel_rfl) ?_
  · try dsimp only [Cu.pick, Cu.rep, Cu.nth]
    refine ⟨0, rfl, ⟨rfl⟩, ⟨fun j hj => by omega⟩, ⟨Kd.R_nil _ _ _ _ _⟩, ⟨fun k hk => by simp [Value.ownBlock] at hk⟩, ⟨?_⟩, ⟨?_⟩, ⟨?_⟩⟩
    · exact blk_alloc (blk_new W _) _
    · have h9 := blk_new (W.alloc (.cells #[.int .i64 a, .int .i64 b, .int .i64 p, .int .i64 q] 29)) (.cells #[.int .i64 a, .int .i64 b, .int .i64 p, .int .i64 q, .int .i64 0] 80)
      rw [World.size_alloc] at h9
      exact h9
    · exact below_alloc (below_alloc (Below.refl _ _) _) _
  intro gk wr u5 u6 u9 u10 u11 u12 u13 u14 u15 u16 u17 u18 u19 u20 u21 u22 u23 u24 u25 u26 u27 u28 u29 u30 u31 u32 u33 u34 u35 u36 u37 u38 u39
  try dsimp only [Cu.over, Cu.rep, Cu.nth]
  intro hrel _ _ _ _
  obtain ⟨i, rfl, HK, HI, HO, HNB, HS, HR, HB⟩ := hrel
  have cg := HGC.out wr HB.out
  have s0 : wr.cell? ⟨W.heap.size, 0, none⟩ = some (.int .i64 a) := (blk_cell HS.out 0).trans rfl
  have s1 : wr.cell? ⟨W.heap.size, 1, none⟩ = some (.int .i64 b) := (blk_cell HS.out 1).trans rfl
  have s2 : wr.cell? ⟨W.heap.size, 2, none⟩ = some (.int .i64 p) := (blk_cell HS.out 2).trans rfl
  have s3 : wr.cell? ⟨W.heap.size, 3, none⟩ = some (.int .i64 q) := (blk_cell HS.out 3).trans rfl
  by_cases hi : i < n
  · obtain ⟨b1, rfl, hbl, hbc, hcl⟩ := HC.out i hi
    have hiE : i < E.length := by have := HN.out; omega
    have hcl' : ∀ k u, (encE E[i]!)[k]? = some u → wr.cell? ⟨b1, i * 5 + k, none⟩ = some u := fun k u hu => (HB.out.cell hbl).trans (hcl k u hu)
    have hown := HOW.out E[i]! (by rw [getElem!_pos E i hiE]; exact List.getElem_mem hiE)
    have hat := fun h => add_at (a := a) (b := b) (p := p) (q := q) i hiE HI.out h
    have htk : E.take (i + 1) = E.take i ++ [E[i]!] := by rw [List.take_add_one, List.getElem?_eq_getElem hiE, getElem!_pos E i hiE]; rfl
    have hll : ltK E[i]! a b = true → ∀ j, j < i + 1 → ltK E[j]! a b = true := fun h j hj => by
      by_cases e : j = i
      · rw [e]; exact h
      · exact HI.out j (by omega)
    generalize hy : E[i]! = y at hcl' hown hat htk hll
    obtain ⟨y1, y2, y3, y4, y5, y6, y7⟩ := y
    obtain ⟨h3, h4⟩ : y3 = y1 ∧ y4 = y2 := hown
    subst h3 h4
    have c0 : wr.cell? ⟨b1, i * 5, none⟩ = some (.int .i64 y3) := hcl' 0 _ rfl
    have c1 : wr.cell? ⟨b1, i * 5 + 1, none⟩ = some (.int .i64 y4) := hcl' 1 _ rfl
    have c2 : wr.cell? ⟨b1, i * 5 + 2, none⟩ = some (.int .i64 y5) := hcl' 2 _ rfl
    have c3 : wr.cell? ⟨b1, i * 5 + 3, none⟩ = some (.int .i64 y6) := hcl' 3 _ rfl
    have c4 : wr.cell? ⟨b1, i * 5 + 4, none⟩ = some (.int .i64 y7) := hcl' 4 _ rfl
    have hii : (i : Int) < (n : Int) := by omega
    have hbf := before_f y3 y4 y5 y6 a b p q
    have hbg := before_f a b p q y3 y4 y5 y6
    have HX := Lib.hid (show (n + 1) * 40 ≤ 140737488355328 ∧ n = E.length ∧ i < n from ⟨by omega, HN.out, hi⟩)
    have HAT := Lib.hid hat
    have HTK := Lib.hid htk
    have HLL := Lib.hid hll
    have HCL := Lib.hid (show ∀ w', Below W.heap.size W w' → ∀ k u, (encE ⟨y3, y4, y3, y4, y5, y6, y7⟩)[k]? = some u → w'.cell? ⟨b1, i * 5 + k, none⟩ = some u from fun w' hb k u hu => (hb.cell hbl).trans (hcl k u (by rw [hy]; exact hu)))
    clear hcl hcl' hy hiE hi hat htk hll
    by_cases hL : ord y3 y4 a b < 0
    · rw [decide_eq_true hL] at hbf
      have HBF := Lib.hid hbf
      have HL2 := Lib.hid (HLL.out (decide_eq_true hL))
      clear hbf hbg
      go_upto_region 4 with (fail)
      go_region_held3 (fun w' : World => w'.cell? ⟨g, 0, none⟩ = some (.slice (some ⟨b1, 0, none⟩) n c) ∧ w'.cell? ⟨b1, i * 5, none⟩ = some (.int .i64 y3) ∧ w'.cell? ⟨b1, i * 5 + 1, none⟩ = some (.int .i64 y4) ∧ w'.cell? ⟨b1, i * 5 + 2, none⟩ = some (.int .i64 y5) ∧ w'.cell? ⟨b1, i * 5 + 3, none⟩ = some (.int .i64 y6) ∧ w'.cell? ⟨W.heap.size, 0, none⟩ = some (.int .i64 a) ∧ w'.cell? ⟨W.heap.size, 1, none⟩ = some (.int .i64 b) ∧ w'.cell? ⟨W.heap.size, 2, none⟩ = some (.int .i64 p) ∧ w'.cell? ⟨W.heap.size, 3, none⟩ = some (.int .i64 q)) (first | with_reducible assumption | exact ⟨cg, c0, c1, c2, c3, s0, s1, s2, s3⟩ | exact keep9 (by assumption) (by assumption) | (simp; done)) (first | (go_at_call 40; with_reducible refine (gimbalref26_before.calls y3 y4 y5 y6 a b p q _ _ HBF.out).mono ?_; rintro e w3 ⟨rfl, hb3⟩))
      replace hb3 : Below wr.heap.size wr w3 := below_step (below_drew (Below.refl wr.heap.size wr)) hb3
      have e0 := pw_cell_below hb3 cg
      have e1 := pw_cell_below hb3 c0
      have e2 := pw_cell_below hb3 c1
      have e3 := pw_cell_below hb3 c2
      have e4 := pw_cell_below hb3 c3
      have e5 := pw_cell_below hb3 c4
      go_wp2_with (first | (at_builtin; refine Kd.R_append kE (w0 := w3) base rfl (.tmp 28) (.tmp 36) 47 80 (.agg #[.int .i64 0, .int .i64 0, .int .i64 0, .int .i64 0, .int .i64 0]) 40 rfl Try.underlying47 infoE rfl (by decide) (by omega) u5 (E.take i) ⟨y3, y4, y3, y4, y5, y6, y7⟩ [.int .i64 y3, .int .i64 y4, .int .i64 y5, .int .i64 y6, .int .i64 y7] (fun _ => True) (fun _ => False) rfl (by simp [Act.eval]) ?aP (fun _ hk => hk.elim) ?aF ?aO ?aB ?aS ?aL ?_; (case aP => exact kE_mkM _ _ _ ⟨y3, y4, y3, y4, y5, y6, y7⟩); (case aF => exact (fun _ _ => trivial)); (case aO => exact Kd.R_below HO.out hb3); (case aB => exact Below.refl _ _); (case aS => exact Nat.le_trans HBS.out (below_step HB.out hb3).size); (case aL => have := HX.out; have h9 : (E.take i).length ≤ i := (by rw [List.length_take]; omega); omega); intro v1 w10 ho hb hgr hat; have HB4 := Aside0.mk (below_grown2 (below_step HB.out hb3) hgr (fun k hk => by have := HNB.out k hk; omega)); have hlt3 : W.heap.size + 2 ≤ w3.heap.size := (by have h8 := blk_lt HR.out; have h9 := hb3.size; show W.heap.size + 2 ≤ w3.heap.size; exact Nat.le_trans h8 h9); have HN4 := Aside0.mk (new_of_old2 hlt3 HNB.out hat); have HO4 := Aside0.mk ho; have HS4 := Aside0.mk (keep_blk hgr HNB.out (blk_below HS.out hb3) (by omega)); have HR4 := Aside0.mk (keep_blk hgr HNB.out (blk_below HR.out hb3) (by omega)); clear ho hb hgr hat))
      refine Cu.handed (n - (i + 1)) (by have := HK.out; omega) (by assumption) ?_ (by kernel_rfl) (by kernel_rfl)
      try dsimp only [Cu.pick, Cu.rep, Cu.nth]
      exact ⟨i + 1, by rw [Int.natCast_add]; rfl, ⟨by have := HK.out; omega⟩, ⟨HL2.out⟩, ⟨by rw [HTK.out]; exact HO4.out⟩, HN4, HS4, HR4, HB4⟩
    · rw [decide_eq_false hL] at hbf
      have HBF := Lib.hid hbf
      have hlf : ltK ⟨y3, y4, y3, y4, y5, y6, y7⟩ a b = false := decide_eq_false hL
      have HAD := Lib.hid (HAT.out hlf)
      go_upto_region 4 with (fail)
      go_region_held3 (fun w' : World => w'.cell? ⟨g, 0, none⟩ = some (.slice (some ⟨b1, 0, none⟩) n c) ∧ w'.cell? ⟨b1, i * 5, none⟩ = some (.int .i64 y3) ∧ w'.cell? ⟨b1, i * 5 + 1, none⟩ = some (.int .i64 y4) ∧ w'.cell? ⟨b1, i * 5 + 2, none⟩ = some (.int .i64 y5) ∧ w'.cell? ⟨b1, i * 5 + 3, none⟩ = some (.int .i64 y6) ∧ w'.cell? ⟨W.heap.size, 0, none⟩ = some (.int .i64 a) ∧ w'.cell? ⟨W.heap.size, 1, none⟩ = some (.int .i64 b) ∧ w'.cell? ⟨W.heap.size, 2, none⟩ = some (.int .i64 p) ∧ w'.cell? ⟨W.heap.size, 3, none⟩ = some (.int .i64 q)) (first | with_reducible assumption | exact ⟨cg, c0, c1, c2, c3, s0, s1, s2, s3⟩ | exact keep9 (by assumption) (by assumption) | (simp; done)) (first | (go_at_call 40; with_reducible refine (gimbalref26_before.calls y3 y4 y5 y6 a b p q _ _ HBF.out).mono ?_; rintro e w3 ⟨rfl, hb3⟩))
      replace hb3 : Below wr.heap.size wr w3 := below_step (below_drew (Below.refl wr.heap.size wr)) hb3
      have e0 := pw_cell_below hb3 cg
      have e1 := pw_cell_below hb3 c0
      have e2 := pw_cell_below hb3 c1
      have e3 := pw_cell_below hb3 c2
      have e4 := pw_cell_below hb3 c3
      have e5 := pw_cell_below hb3 c4
      have f0 := pw_cell_below hb3 s0
      have f1 := pw_cell_below hb3 s1
      have f2 := pw_cell_below hb3 s2
      have f3 := pw_cell_below hb3 s3
      have HB3 := Aside0.mk hb3
      clear hlf cg c0 c1 c2 c3 c4 s0 s1 s2 s3 hb3
      by_cases hG : ord a b y3 y4 < 0
      · have hne : eqK ⟨y3, y4, y3, y4, y5, y6, y7⟩ a b = false := by
          unfold eqK
          rw [decide_eq_false_iff_not, ord_zero]
          rw [ord_neg] at hG
          show ¬ (y3 = a ∧ y4 = b)
          omega
        rw [decide_eq_true hG] at hbg
        have HBG := Lib.hid hbg
        have HAD2 := HAD.out
        rw [hne, if_neg (by decide)] at HAD2
        have HAE := Lib.hid HAD2
        clear hbf hbg HAD2 hne
        go_upto_region 7 with (fail)
        go_region_held3 (fun w' : World => w'.cell? ⟨g, 0, none⟩ = some (.slice (some ⟨b1, 0, none⟩) n c) ∧ w'.cell? ⟨b1, i * 5, none⟩ = some (.int .i64 y3) ∧ w'.cell? ⟨b1, i * 5 + 1, none⟩ = some (.int .i64 y4) ∧ w'.cell? ⟨b1, i * 5 + 2, none⟩ = some (.int .i64 y5) ∧ w'.cell? ⟨b1, i * 5 + 3, none⟩ = some (.int .i64 y6) ∧ w'.cell? ⟨W.heap.size, 0, none⟩ = some (.int .i64 a) ∧ w'.cell? ⟨W.heap.size, 1, none⟩ = some (.int .i64 b) ∧ w'.cell? ⟨W.heap.size, 2, none⟩ = some (.int .i64 p) ∧ w'.cell? ⟨W.heap.size, 3, none⟩ = some (.int .i64 q)) (first | with_reducible assumption | exact ⟨e0, e1, e2, e3, e4, f0, f1, f2, f3⟩ | exact keep9 (by assumption) (by assumption) | (simp; done)) (first | (go_at_call 40; with_reducible refine (gimbalref26_before.calls a b p q y3 y4 y5 y6 _ _ HBG.out).mono ?_; rintro e w5 ⟨rfl, hb5⟩))
        replace hb5 : Below wr.heap.size wr w5 := below_step (below_drew HB3.out) hb5
        go_upto_region 10 with (fail)
        obtain ⟨X, hX⟩ : ∃ X, X = w5 := ⟨_, rfl⟩
        rw [← hX] at hb5 ⊢
        have HBX := Aside0.mk (below_step HB.out hb5)
        have HNX := Aside0.mk (show ∀ k, u5.ownBlock = some k → W.heap.size ≤ k from fun k hk => by have := HNB.out k hk; omega)
        have HOX := Aside0.mk (Kd.R_below HO.out hb5)
        have hrx := blk_below HR.out hb5
        have r0 : X.cell? ⟨W.heap.size + 1, 0, none⟩ = some (.int .i64 a) := (blk_cell hrx 0).trans rfl
        have r1 : X.cell? ⟨W.heap.size + 1, 1, none⟩ = some (.int .i64 b) := (blk_cell hrx 1).trans rfl
        have r2 : X.cell? ⟨W.heap.size + 1, 2, none⟩ = some (.int .i64 p) := (blk_cell hrx 2).trans rfl
        have r3 : X.cell? ⟨W.heap.size + 1, 3, none⟩ = some (.int .i64 q) := (blk_cell hrx 3).trans rfl
        have r4 : X.cell? ⟨W.heap.size + 1, 4, none⟩ = some (.int .i64 0) := (blk_cell hrx 4).trans rfl
        clear hrx hb5 hX e0 e1 e2 e3 e4 e5 f0 f1 f2 f3
        have hrd := Kd.R_reads' H0.out.2
        have hrdf : ∀ w', Below W.heap.size W w' → ReadsRow (kE.K w') kE.sz w' (if c = i then some ⟨b1, 0, none⟩ else some ⟨b1, (i) * 5, none⟩) (n - (i)) (E.drop (i)) := fun w' hb => by
          have h1 := Kd.C_drop (Kd.C_below hrd.2.2 hb) (m := i) (c := c) (by have := HN.out; have := HX.out; omega) (by have := HN.out; omega)
          rw [List.length_drop, ← hrd.1] at h1
          have e : (Option.map (fun x : Addr => x.add ((i) * kE.sz)) (some ⟨b1, 0, none⟩)) = some ⟨b1, (i) * 5, none⟩ := by
            rw [Option.map_some, add_plain]
            rfl
          rw [e] at h1
          exact h1
        have HRD := Lib.hid hrdf
        clear hrd hrdf
        by_cases hcap : c = i
        · exact absurd hcap (by have := HX.out; omega)
        · rw [if_neg hcap] at HRD
          go_wp2_with (first | (at_builtin; refine Kd.R_append kE (w0 := X) base rfl (.tmp 71) (.tmp 73) 47 80 (.agg #[.int .i64 0, .int .i64 0, .int .i64 0, .int .i64 0, .int .i64 0]) 40 rfl Try.underlying47 infoE rfl (by decide) (by omega) u5 (E.take i) (⟨a, b, a, b, p, q, 0⟩ : Ent) [.int .i64 a, .int .i64 b, .int .i64 p, .int .i64 q, .int .i64 0] (fun _ => True) (fun _ => False) rfl (by simp [Act.eval]) ?aP (fun _ hk => hk.elim) ?aF ?aO ?aB ?aS ?aL ?_; (case aP => exact kE_mkM _ _ _ (⟨a, b, a, b, p, q, 0⟩ : Ent)); (case aF => exact (fun _ _ => trivial)); (case aO => exact HOX.out); (case aB => exact Below.refl _ _); (case aS => exact Nat.le_trans HBS.out HBX.out.size); (case aL => have := HX.out; have h9 : (E.take i).length ≤ i := (by rw [List.length_take]; omega); omega); intro v1 w10 ho hb hgr hat; have HB4 := Aside0.mk (below_grown2 HBX.out hgr HNX.out); have HN4 := Aside0.mk (new_of_old HBX.out HNX.out hat); have HO4 := Aside0.mk ho; have d1 := HGC.out w10 HB4.out; clear ho hb hgr hat) | (at_builtin; refine Kd.R_append_rows kE (w0 := w10) base rfl (.tmp 76) (.tmp 82) 47 80 (.agg #[.int .i64 0, .int .i64 0, .int .i64 0, .int .i64 0, .int .i64 0]) 40 rfl Try.underlying47 infoE rfl (by decide) (by omega) v1 (E.take i ++ [(⟨a, b, a, b, p, q, 0⟩ : Ent)]) (E.drop (i)) _ _ _ (fun _ => True) (fun _ => False) rfl rfl ?aO ?aR (fun _ _ h => kE_K h) (fun _ h => h.elim) ?aF ?aB ?aS ?aL ?_; (case aO => exact HO4.out); (case aR => exact HRD.out _ HB4.out); (case aF => exact (fun _ _ => trivial)); (case aB => exact Below.refl _ _); (case aS => exact Nat.le_trans HBS.out HB4.out.size); (case aL => have := HX.out; have h9 := len_snoc E i (⟨a, b, a, b, p, q, 0⟩ : Ent); omega); intro v2 w11 ho hb hgr hat; obtain ⟨A9, c9, e9⟩ := Kd.R_slice ho; obtain ⟨ln, hln⟩ : ∃ ln, ln = (E.take i ++ [(⟨a, b, a, b, p, q, 0⟩ : Ent)] ++ E.drop (i)).length := ⟨_, rfl⟩; rw [← hln] at e9; clear hln; subst e9; have hB2 := below_grown2 HB4.out hgr HN4.out; have HST := Aside0.mk (RTab.stored H0.out hB2 ho); have f0 := HST.out.2.2.1; have ff := HST.out.2.2.2; clear ho hb hgr hat hB2))
          go_end0
          have hfin : RTab base (w11.setCell ⟨g, 0, none⟩ (.slice A9 ln c9)) g (.slice A9 ln c9) (Tb.add E a b p q) := by
            rw [HAE.out, show ∀ (l r : List Ent) (x : Ent), l ++ x :: r = l ++ [x] ++ r from fun l r x => by simp]
            exact HST.out.1
          first | exact ⟨.slice A9 ln c9, rfl, hfin, HST.out.2.1⟩ | exact ⟨rfl, ⟨.slice A9 ln c9, hfin⟩, HST.out.2.1⟩
      · have hne : eqK ⟨y3, y4, y3, y4, y5, y6, y7⟩ a b = true := by
          unfold eqK
          rw [decide_eq_true_eq, ord_zero]
          have hL2 : ¬ ord y3 y4 a b < 0 := by omega
          rw [ord_neg] at hG hL2
          show y3 = a ∧ y4 = b
          omega
        rw [decide_eq_false hG] at hbg
        have HBG := Lib.hid hbg
        have HAD2 := HAD.out
        rw [hne, if_pos rfl] at HAD2
        have HAE := Lib.hid HAD2
        clear hbf hbg HAD2 hne
        go_upto_region 7 with (fail)
        go_region_held3 (fun w' : World => w'.cell? ⟨g, 0, none⟩ = some (.slice (some ⟨b1, 0, none⟩) n c) ∧ w'.cell? ⟨b1, i * 5, none⟩ = some (.int .i64 y3) ∧ w'.cell? ⟨b1, i * 5 + 1, none⟩ = some (.int .i64 y4) ∧ w'.cell? ⟨b1, i * 5 + 2, none⟩ = some (.int .i64 y5) ∧ w'.cell? ⟨b1, i * 5 + 3, none⟩ = some (.int .i64 y6) ∧ w'.cell? ⟨W.heap.size, 0, none⟩ = some (.int .i64 a) ∧ w'.cell? ⟨W.heap.size, 1, none⟩ = some (.int .i64 b) ∧ w'.cell? ⟨W.heap.size, 2, none⟩ = some (.int .i64 p) ∧ w'.cell? ⟨W.heap.size, 3, none⟩ = some (.int .i64 q)) (first | with_reducible assumption | exact ⟨e0, e1, e2, e3, e4, f0, f1, f2, f3⟩ | exact keep9 (by assumption) (by assumption) | (simp; done)) (first | (go_at_call 40; with_reducible refine (gimbalref26_before.calls a b p q y3 y4 y5 y6 _ _ HBG.out).mono ?_; rintro e w5 ⟨rfl, hb5⟩))
        replace hb5 : Below wr.heap.size wr w5 := below_step (below_drew HB3.out) hb5
        have g0 := (Below.cell (below_step HB.out hb5) (p := ⟨g, 0, none⟩) hg).trans (HGC.out W (Below.refl _ _))
        have hr5 := blk_below HR.out hb5
        have g5 : w5.cell? ⟨W.heap.size + 1, 4, none⟩ = some (.int .i64 0) := (blk_cell hr5 4).trans rfl
        have g6 := blk_frozen hr5 4
        have g7 : w5.cell? ⟨b1, i * 5 + 4, none⟩ = some (.int .i64 y7) := (hb5.cell (World.block_lt_of_cell? _ _ (HCL.out wr HB.out 4 _ rfl))).trans (HCL.out wr HB.out 4 _ rfl)
        go_upto_region 10 with (fail)
        obtain ⟨X, hX⟩ : ∃ X, X = w5.setCell ⟨W.heap.size + 1, 4, none⟩ (.int .i64 y7) := ⟨_, rfl⟩
        rw [← hX]
        have HBX := Aside0.mk (show Below W.heap.size W X from hX ▸ below_set (below_step HB.out hb5) (Nat.le_succ _))
        have HNX := Aside0.mk (show ∀ k, u5.ownBlock = some k → W.heap.size ≤ k from fun k hk => by have := HNB.out k hk; omega)
        have HOX := Aside0.mk (show Kd.R kE 80 X base (fun _ => True) u5 (E.take i) from hX ▸ Kd.R_mono (Kd.R_far (p := ⟨W.heap.size + 1, 4, none⟩) (own_notin (Kd.R_below HO.out hb5) (W.heap.size + 1) (fun k hk => by have := HNB.out k hk; omega)) (fun _ h => h.2) (.int .i64 y7)) (fun _ h => h.1))
        have hrx : X.heap[W.heap.size + 1]? = some (.cells #[.int .i64 a, .int .i64 b, .int .i64 p, .int .i64 q, .int .i64 y7] 80 (0, 0)) := by rw [hX]; simpa using blk_set hr5 4 (.int .i64 y7)
        have r0 : X.cell? ⟨W.heap.size + 1, 0, none⟩ = some (.int .i64 a) := (blk_cell hrx 0).trans rfl
        have r1 : X.cell? ⟨W.heap.size + 1, 1, none⟩ = some (.int .i64 b) := (blk_cell hrx 1).trans rfl
        have r2 : X.cell? ⟨W.heap.size + 1, 2, none⟩ = some (.int .i64 p) := (blk_cell hrx 2).trans rfl
        have r3 : X.cell? ⟨W.heap.size + 1, 3, none⟩ = some (.int .i64 q) := (blk_cell hrx 3).trans rfl
        have r4 : X.cell? ⟨W.heap.size + 1, 4, none⟩ = some (.int .i64 y7) := (blk_cell hrx 4).trans rfl
        have hw1 : IntKind.i64.wrap ((i : Int) + 1) = (i : Int) + 1 := by rw [IntKind.wrap_i64]; have := HX.out; omega
        have hq0 : (0 : Int) ≤ (i : Int) + 1 := by omega
        have hq1 : (i : Int) + 1 ≤ (n : Int) := by omega
        have hq2 : ((i : Int) + 1).toNat = i + 1 := by omega
        clear hrx hb5 hX hr5 g0 g5 g6 g7 e0 e1 e2 e3 e4 e5 f0 f1 f2 f3
        have hrd := Kd.R_reads' H0.out.2
        have hrdf : ∀ w', Below W.heap.size W w' → ReadsRow (kE.K w') kE.sz w' (if c = i + 1 then some ⟨b1, 0, none⟩ else some ⟨b1, (i + 1) * 5, none⟩) (n - (i + 1)) (E.drop (i + 1)) := fun w' hb => by
          have h1 := Kd.C_drop (Kd.C_below hrd.2.2 hb) (m := i + 1) (c := c) (by have := HN.out; have := HX.out; omega) (by have := HN.out; omega)
          rw [List.length_drop, ← hrd.1] at h1
          have e : (Option.map (fun x : Addr => x.add ((i + 1) * kE.sz)) (some ⟨b1, 0, none⟩)) = some ⟨b1, (i + 1) * 5, none⟩ := by
            rw [Option.map_some, add_plain]
            rfl
          rw [e] at h1
          exact h1
        have HRD := Lib.hid hrdf
        clear hrd hrdf
        by_cases hcap : c = i + 1
        · rw [if_pos hcap] at HRD
          go_wp2_with (first | (at_builtin; refine Kd.R_append kE (w0 := X) base rfl (.tmp 71) (.tmp 73) 47 80 (.agg #[.int .i64 0, .int .i64 0, .int .i64 0, .int .i64 0, .int .i64 0]) 40 rfl Try.underlying47 infoE rfl (by decide) (by omega) u5 (E.take i) (⟨y3, y4, a, b, p, q, y7⟩ : Ent) [.int .i64 a, .int .i64 b, .int .i64 p, .int .i64 q, .int .i64 y7] (fun _ => True) (fun _ => False) rfl (by simp [Act.eval]) ?aP (fun _ hk => hk.elim) ?aF ?aO ?aB ?aS ?aL ?_; (case aP => exact kE_mkM _ _ _ (⟨y3, y4, a, b, p, q, y7⟩ : Ent)); (case aF => exact (fun _ _ => trivial)); (case aO => exact HOX.out); (case aB => exact Below.refl _ _); (case aS => exact Nat.le_trans HBS.out HBX.out.size); (case aL => have := HX.out; have h9 : (E.take i).length ≤ i := (by rw [List.length_take]; omega); omega); intro v1 w10 ho hb hgr hat; have HB4 := Aside0.mk (below_grown2 HBX.out hgr HNX.out); have HN4 := Aside0.mk (new_of_old HBX.out HNX.out hat); have HO4 := Aside0.mk ho; have d1 := HGC.out w10 HB4.out; clear ho hb hgr hat) | (at_builtin; refine Kd.R_append_rows kE (w0 := w10) base rfl (.tmp 76) (.tmp 82) 47 80 (.agg #[.int .i64 0, .int .i64 0, .int .i64 0, .int .i64 0, .int .i64 0]) 40 rfl Try.underlying47 infoE rfl (by decide) (by omega) v1 (E.take i ++ [(⟨y3, y4, a, b, p, q, y7⟩ : Ent)]) (E.drop (i + 1)) _ _ _ (fun _ => True) (fun _ => False) rfl rfl ?aO ?aR (fun _ _ h => kE_K h) (fun _ h => h.elim) ?aF ?aB ?aS ?aL ?_; (case aO => exact HO4.out); (case aR => exact HRD.out _ HB4.out); (case aF => exact (fun _ _ => trivial)); (case aB => exact Below.refl _ _); (case aS => exact Nat.le_trans HBS.out HB4.out.size); (case aL => have := HX.out; have h9 := len_snoc E i (⟨y3, y4, a, b, p, q, y7⟩ : Ent); omega); intro v2 w11 ho hb hgr hat; obtain ⟨A9, c9, e9⟩ := Kd.R_slice ho; obtain ⟨ln, hln⟩ : ∃ ln, ln = (E.take i ++ [(⟨y3, y4, a, b, p, q, y7⟩ : Ent)] ++ E.drop (i + 1)).length := ⟨_, rfl⟩; rw [← hln] at e9; clear hln; subst e9; have hB2 := below_grown2 HB4.out hgr HN4.out; have HST := Aside0.mk (RTab.stored H0.out hB2 ho); have f0 := HST.out.2.2.1; have ff := HST.out.2.2.2; clear ho hb hgr hat hB2))
          go_end0
          have hfin : RTab base (w11.setCell ⟨g, 0, none⟩ (.slice A9 ln c9)) g (.slice A9 ln c9) (Tb.add E a b p q) := by
            rw [HAE.out, show ∀ (l r : List Ent) (x : Ent), l ++ x :: r = l ++ [x] ++ r from fun l r x => by simp]
            exact HST.out.1
          first | exact ⟨.slice A9 ln c9, rfl, hfin, HST.out.2.1⟩ | exact ⟨rfl, ⟨.slice A9 ln c9, hfin⟩, HST.out.2.1⟩
        · rw [if_neg hcap] at HRD
          go_wp2_with (first | (at_builtin; refine Kd.R_append kE (w0 := X) base rfl (.tmp 71) (.tmp 73) 47 80 (.agg #[.int .i64 0, .int .i64 0, .int .i64 0, .int .i64 0, .int .i64 0]) 40 rfl Try.underlying47 infoE rfl (by decide) (by omega) u5 (E.take i) (⟨y3, y4, a, b, p, q, y7⟩ : Ent) [.int .i64 a, .int .i64 b, .int .i64 p, .int .i64 q, .int .i64 y7] (fun _ => True) (fun _ => False) rfl (by simp [Act.eval]) ?aP (fun _ hk => hk.elim) ?aF ?aO ?aB ?aS ?aL ?_; (case aP => exact kE_mkM _ _ _ (⟨y3, y4, a, b, p, q, y7⟩ : Ent)); (case aF => exact (fun _ _ => trivial)); (case aO => exact HOX.out); (case aB => exact Below.refl _ _); (case aS => exact Nat.le_trans HBS.out HBX.out.size); (case aL => have := HX.out; have h9 : (E.take i).length ≤ i := (by rw [List.length_take]; omega); omega); intro v1 w10 ho hb hgr hat; have HB4 := Aside0.mk (below_grown2 HBX.out hgr HNX.out); have HN4 := Aside0.mk (new_of_old HBX.out HNX.out hat); have HO4 := Aside0.mk ho; have d1 := HGC.out w10 HB4.out; clear ho hb hgr hat) | (at_builtin; refine Kd.R_append_rows kE (w0 := w10) base rfl (.tmp 76) (.tmp 82) 47 80 (.agg #[.int .i64 0, .int .i64 0, .int .i64 0, .int .i64 0, .int .i64 0]) 40 rfl Try.underlying47 infoE rfl (by decide) (by omega) v1 (E.take i ++ [(⟨y3, y4, a, b, p, q, y7⟩ : Ent)]) (E.drop (i + 1)) _ _ _ (fun _ => True) (fun _ => False) rfl rfl ?aO ?aR (fun _ _ h => kE_K h) (fun _ h => h.elim) ?aF ?aB ?aS ?aL ?_; (case aO => exact HO4.out); (case aR => exact HRD.out _ HB4.out); (case aF => exact (fun _ _ => trivial)); (case aB => exact Below.refl _ _); (case aS => exact Nat.le_trans HBS.out HB4.out.size); (case aL => have := HX.out; have h9 := len_snoc E i (⟨y3, y4, a, b, p, q, y7⟩ : Ent); omega); intro v2 w11 ho hb hgr hat; obtain ⟨A9, c9, e9⟩ := Kd.R_slice ho; obtain ⟨ln, hln⟩ : ∃ ln, ln = (E.take i ++ [(⟨y3, y4, a, b, p, q, y7⟩ : Ent)] ++ E.drop (i + 1)).length := ⟨_, rfl⟩; rw [← hln] at e9; clear hln; subst e9; have hB2 := below_grown2 HB4.out hgr HN4.out; have HST := Aside0.mk (RTab.stored H0.out hB2 ho); have f0 := HST.out.2.2.1; have ff := HST.out.2.2.2; clear ho hb hgr hat hB2))
          go_end0
          have hfin : RTab base (w11.setCell ⟨g, 0, none⟩ (.slice A9 ln c9)) g (.slice A9 ln c9) (Tb.add E a b p q) := by
            rw [HAE.out, show ∀ (l r : List Ent) (x : Ent), l ++ x :: r = l ++ [x] ++ r from fun l r x => by simp]
            exact HST.out.1
          first | exact ⟨.slice A9 ln c9, rfl, hfin, HST.out.2.1⟩ | exact ⟨rfl, ⟨.slice A9 ln c9, hfin⟩, HST.out.2.1⟩
  · have hii : ¬ (i : Int) < (n : Int) := by omega
    have hin : i = n := by have := HK.out; omega
    subst hin
    have HAE := Lib.hid (add_end (E := E) (a := a) (b := b) (p := p) (q := q) (fun j hj => HI.out j (by have := HN.out; omega)))
    have HX := Lib.hid (show (i + 1) * 40 ≤ 140737488355328 ∧ i = E.length ∧ i < i + 1 from ⟨by omega, HN.out, by omega⟩)
    clear hi
    go_upto_region 4 with (fail)
    go_quiet (fail)
    go_upto_region 7 with (fail)
    go_quiet (fail)
    go_upto_region 10 with (fail)
    generalize hX : (wr.drewN _).drewN _ = X
    have hbx : Below wr.heap.size wr X := hX ▸ pw_below_drewN (pw_below_drewN (Below.refl _ _) _) _
    have HBX := Aside0.mk (below_step HB.out hbx)
    have HNX := Aside0.mk (show ∀ k, u5.ownBlock = some k → W.heap.size ≤ k from fun k hk => by have := HNB.out k hk; omega)
    have HOX := Aside0.mk (Kd.R_below HO.out hbx)
    have hrx := blk_below HR.out hbx
    have r0 : X.cell? ⟨W.heap.size + 1, 0, none⟩ = some (.int .i64 a) := (blk_cell hrx 0).trans rfl
    have r1 : X.cell? ⟨W.heap.size + 1, 1, none⟩ = some (.int .i64 b) := (blk_cell hrx 1).trans rfl
    have r2 : X.cell? ⟨W.heap.size + 1, 2, none⟩ = some (.int .i64 p) := (blk_cell hrx 2).trans rfl
    have r3 : X.cell? ⟨W.heap.size + 1, 3, none⟩ = some (.int .i64 q) := (blk_cell hrx 3).trans rfl
    have r4 : X.cell? ⟨W.heap.size + 1, 4, none⟩ = some (.int .i64 0) := (blk_cell hrx 4).trans rfl
    have HAF : RowKit.Hid (Tb.add E a b p q = E.take i ++ [(⟨a, b, a, b, p, q, 0⟩ : Ent)] ++ E.drop i) := Lib.hid (by rw [HAE.out, List.take_of_length_le (by have := HX.out; omega), List.drop_of_length_le (by have := HX.out; omega), List.append_nil])
    clear hrx hbx hX cg s0 s1 s2 s3
    rcases hAf with ⟨rfl, rfl, h0⟩ | ⟨b1, rfl⟩
    · obtain rfl : i = 0 := h0
      have hrd := Kd.R_reads' H0.out.2
      have hrdf : ∀ w', Below W.heap.size W w' → ReadsRow (kE.K w') kE.sz w' (if 0 = 0 then none else none) 0 (E.drop (0)) := fun w' hb => by
        have h1 := Kd.C_drop (Kd.C_below hrd.2.2 hb) (m := 0) (c := 0) (by have := HN.out; have := HX.out; omega) (by have := HN.out; omega)
        rw [List.length_drop, ← hrd.1, Nat.sub_self] at h1
        exact h1
      have HRD := Lib.hid hrdf
      clear hrd hrdf
      by_cases hcap : 0 = 0
      · rw [if_pos hcap] at HRD
        go_wp2_with (first | (at_builtin; refine Kd.R_append kE (w0 := X) base rfl (.tmp 71) (.tmp 73) 47 80 (.agg #[.int .i64 0, .int .i64 0, .int .i64 0, .int .i64 0, .int .i64 0]) 40 rfl Try.underlying47 infoE rfl (by decide) (by omega) u5 (E.take 0) (⟨a, b, a, b, p, q, 0⟩ : Ent) [.int .i64 a, .int .i64 b, .int .i64 p, .int .i64 q, .int .i64 0] (fun _ => True) (fun _ => False) rfl (by simp [Act.eval]) ?aP (fun _ hk => hk.elim) ?aF ?aO ?aB ?aS ?aL ?_; (case aP => exact kE_mkM _ _ _ (⟨a, b, a, b, p, q, 0⟩ : Ent)); (case aF => exact (fun _ _ => trivial)); (case aO => exact HOX.out); (case aB => exact Below.refl _ _); (case aS => exact Nat.le_trans HBS.out HBX.out.size); (case aL => have := HX.out; have h9 : (E.take 0).length ≤ 0 := (by rw [List.length_take]; omega); omega); intro v1 w10 ho hb hgr hat; have HB4 := Aside0.mk (below_grown2 HBX.out hgr HNX.out); have HN4 := Aside0.mk (new_of_old HBX.out HNX.out hat); have HO4 := Aside0.mk ho; have d1 := HGC.out w10 HB4.out; clear ho hb hgr hat) | (at_builtin; refine Kd.R_append_rows kE (w0 := w10) base rfl (.tmp 76) (.tmp 82) 47 80 (.agg #[.int .i64 0, .int .i64 0, .int .i64 0, .int .i64 0, .int .i64 0]) 40 rfl Try.underlying47 infoE rfl (by decide) (by omega) v1 (E.take 0 ++ [(⟨a, b, a, b, p, q, 0⟩ : Ent)]) (E.drop (0)) _ _ _ (fun _ => True) (fun _ => False) rfl rfl ?aO ?aR (fun _ _ h => kE_K h) (fun _ h => h.elim) ?aF ?aB ?aS ?aL ?_; (case aO => exact HO4.out); (case aR => exact HRD.out _ HB4.out); (case aF => exact (fun _ _ => trivial)); (case aB => exact Below.refl _ _); (case aS => exact Nat.le_trans HBS.out HB4.out.size); (case aL => have := HX.out; have h9 := len_snoc E 0 (⟨a, b, a, b, p, q, 0⟩ : Ent); omega); intro v2 w11 ho hb hgr hat; obtain ⟨A9, c9, e9⟩ := Kd.R_slice ho; obtain ⟨ln, hln⟩ : ∃ ln, ln = (E.take 0 ++ [(⟨a, b, a, b, p, q, 0⟩ : Ent)] ++ E.drop (0)).length := ⟨_, rfl⟩; rw [← hln] at e9; clear hln; subst e9; have hB2 := below_grown2 HB4.out hgr HN4.out; have HST := Aside0.mk (RTab.stored H0.out hB2 ho); have f0 := HST.out.2.2.1; have ff := HST.out.2.2.2; clear ho hb hgr hat hB2))
        go_end0
        have hfin : RTab base (w11.setCell ⟨g, 0, none⟩ (.slice A9 ln c9)) g (.slice A9 ln c9) (Tb.add E a b p q) := by
          rw [HAF.out]
          exact HST.out.1
        first | exact ⟨.slice A9 ln c9, rfl, hfin, HST.out.2.1⟩ | exact ⟨rfl, ⟨.slice A9 ln c9, hfin⟩, HST.out.2.1⟩
      · exact absurd rfl hcap
    · have hrd := Kd.R_reads' H0.out.2
      have hrdf : ∀ w', Below W.heap.size W w' → ReadsRow (kE.K w') kE.sz w' (if c = i then some ⟨b1, 0, none⟩ else some ⟨b1, (i) * 5, none⟩) 0 (E.drop (i)) := fun w' hb => by
        have h1 := Kd.C_drop (Kd.C_below hrd.2.2 hb) (m := i) (c := c) (by have := HN.out; have := HX.out; omega) (by have := HN.out; omega)
        rw [List.length_drop, ← hrd.1, Nat.sub_self] at h1
        have e : (Option.map (fun x : Addr => x.add ((i) * kE.sz)) (some ⟨b1, 0, none⟩)) = some ⟨b1, (i) * 5, none⟩ := by
          rw [Option.map_some, add_plain]
          rfl
        rw [e] at h1
        exact h1
      have HRD := Lib.hid hrdf
      clear hrd hrdf
      by_cases hcap : c = i
      · rw [if_pos hcap] at HRD
        go_wp2_with (first | (at_builtin; refine Kd.R_append kE (w0 := X) base rfl (.tmp 71) (.tmp 73) 47 80 (.agg #[.int .i64 0, .int .i64 0, .int .i64 0, .int .i64 0, .int .i64 0]) 40 rfl Try.underlying47 infoE rfl (by decide) (by omega) u5 (E.take i) (⟨a, b, a, b, p, q, 0⟩ : Ent) [.int .i64 a, .int .i64 b, .int .i64 p, .int .i64 q, .int .i64 0] (fun _ => True) (fun _ => False) rfl (by simp [Act.eval]) ?aP (fun _ hk => hk.elim) ?aF ?aO ?aB ?aS ?aL ?_; (case aP => exact kE_mkM _ _ _ (⟨a, b, a, b, p, q, 0⟩ : Ent)); (case aF => exact (fun _ _ => trivial)); (case aO => exact HOX.out); (case aB => exact Below.refl _ _); (case aS => exact Nat.le_trans HBS.out HBX.out.size); (case aL => have := HX.out; have h9 : (E.take i).length ≤ i := (by rw [List.length_take]; omega); omega); intro v1 w10 ho hb hgr hat; have HB4 := Aside0.mk (below_grown2 HBX.out hgr HNX.out); have HN4 := Aside0.mk (new_of_old HBX.out HNX.out hat); have HO4 := Aside0.mk ho; have d1 := HGC.out w10 HB4.out; clear ho hb hgr hat) | (at_builtin; refine Kd.R_append_rows kE (w0 := w10) base rfl (.tmp 76) (.tmp 82) 47 80 (.agg #[.int .i64 0, .int .i64 0, .int .i64 0, .int .i64 0, .int .i64 0]) 40 rfl Try.underlying47 infoE rfl (by decide) (by omega) v1 (E.take i ++ [(⟨a, b, a, b, p, q, 0⟩ : Ent)]) (E.drop (i)) _ _ _ (fun _ => True) (fun _ => False) rfl rfl ?aO ?aR (fun _ _ h => kE_K h) (fun _ h => h.elim) ?aF ?aB ?aS ?aL ?_; (case aO => exact HO4.out); (case aR => exact HRD.out _ HB4.out); (case aF => exact (fun _ _ => trivial)); (case aB => exact Below.refl _ _); (case aS => exact Nat.le_trans HBS.out HB4.out.size); (case aL => have := HX.out; have h9 := len_snoc E i (⟨a, b, a, b, p, q, 0⟩ : Ent); omega); intro v2 w11 ho hb hgr hat; obtain ⟨A9, c9, e9⟩ := Kd.R_slice ho; obtain ⟨ln, hln⟩ : ∃ ln, ln = (E.take i ++ [(⟨a, b, a, b, p, q, 0⟩ : Ent)] ++ E.drop (i)).length := ⟨_, rfl⟩; rw [← hln] at e9; clear hln; subst e9; have hB2 := below_grown2 HB4.out hgr HN4.out; have HST := Aside0.mk (RTab.stored H0.out hB2 ho); have f0 := HST.out.2.2.1; have ff := HST.out.2.2.2; clear ho hb hgr hat hB2))
        go_end0
        have hfin : RTab base (w11.setCell ⟨g, 0, none⟩ (.slice A9 ln c9)) g (.slice A9 ln c9) (Tb.add E a b p q) := by
          rw [HAF.out]
          exact HST.out.1
        first | exact ⟨.slice A9 ln c9, rfl, hfin, HST.out.2.1⟩ | exact ⟨rfl, ⟨.slice A9 ln c9, hfin⟩, HST.out.2.1⟩
      · rw [if_neg hcap] at HRD
        go_wp2_with (first | (at_builtin; refine Kd.R_append kE (w0 := X) base rfl (.tmp 71) (.tmp 73) 47 80 (.agg #[.int .i64 0, .int .i64 0, .int .i64 0, .int .i64 0, .int .i64 0]) 40 rfl Try.underlying47 infoE rfl (by decide) (by omega) u5 (E.take i) (⟨a, b, a, b, p, q, 0⟩ : Ent) [.int .i64 a, .int .i64 b, .int .i64 p, .int .i64 q, .int .i64 0] (fun _ => True) (fun _ => False) rfl (by simp [Act.eval]) ?aP (fun _ hk => hk.elim) ?aF ?aO ?aB ?aS ?aL ?_; (case aP => exact kE_mkM _ _ _ (⟨a, b, a, b, p, q, 0⟩ : Ent)); (case aF => exact (fun _ _ => trivial)); (case aO => exact HOX.out); (case aB => exact Below.refl _ _); (case aS => exact Nat.le_trans HBS.out HBX.out.size); (case aL => have := HX.out; have h9 : (E.take i).length ≤ i := (by rw [List.length_take]; omega); omega); intro v1 w10 ho hb hgr hat; have HB4 := Aside0.mk (below_grown2 HBX.out hgr HNX.out); have HN4 := Aside0.mk (new_of_old HBX.out HNX.out hat); have HO4 := Aside0.mk ho; have d1 := HGC.out w10 HB4.out; clear ho hb hgr hat) | (at_builtin; refine Kd.R_append_rows kE (w0 := w10) base rfl (.tmp 76) (.tmp 82) 47 80 (.agg #[.int .i64 0, .int .i64 0, .int .i64 0, .int .i64 0, .int .i64 0]) 40 rfl Try.underlying47 infoE rfl (by decide) (by omega) v1 (E.take i ++ [(⟨a, b, a, b, p, q, 0⟩ : Ent)]) (E.drop (i)) _ _ _ (fun _ => True) (fun _ => False) rfl rfl ?aO ?aR (fun _ _ h => kE_K h) (fun _ h => h.elim) ?aF ?aB ?aS ?aL ?_; (case aO => exact HO4.out); (case aR => exact HRD.out _ HB4.out); (case aF => exact (fun _ _ => trivial)); (case aB => exact Below.refl _ _); (case aS => exact Nat.le_trans HBS.out HB4.out.size); (case aL => have := HX.out; have h9 := len_snoc E i (⟨a, b, a, b, p, q, 0⟩ : Ent); omega); intro v2 w11 ho hb hgr hat; obtain ⟨A9, c9, e9⟩ := Kd.R_slice ho; obtain ⟨ln, hln⟩ : ∃ ln, ln = (E.take i ++ [(⟨a, b, a, b, p, q, 0⟩ : Ent)] ++ E.drop (i)).length := ⟨_, rfl⟩; rw [← hln] at e9; clear hln; subst e9; have hB2 := below_grown2 HB4.out hgr HN4.out; have HST := Aside0.mk (RTab.stored H0.out hB2 ho); have f0 := HST.out.2.2.1; have ff := HST.out.2.2.2; clear ho hb hgr hat hB2))
        go_end0
        have hfin : RTab base (w11.setCell ⟨g, 0, none⟩ (.slice A9 ln c9)) g (.slice A9 ln c9) (Tb.add E a b p q) := by
          rw [HAF.out]
          exact HST.out.1
        first | exact ⟨.slice A9 ln c9, rfl, hfin, HST.out.2.1⟩ | exact ⟨rfl, ⟨.slice A9 ln c9, hfin⟩, HST.out.2.1⟩
end Go.Proofs.Ytfdfnmlbmijdjaa.Rt
