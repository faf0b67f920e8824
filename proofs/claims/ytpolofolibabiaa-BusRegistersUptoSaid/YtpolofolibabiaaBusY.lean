/-
  Layer 8: BusRegisters, walked.
  No conditions.
-/
import Derived.Test.YtpolofolibabiaaBusX
namespace Go.Proofs.Ytpolofolibabiaa.Bs
open Go Go.RowKit Go.Lib Go.Proofs.YtpolofolibabiaaW.PrintWords Go.Proofs.YtpolofolibabiaaW.PrintLast Go.Proofs.YtpolofolibabiaaW.PrintMore
set_option linter.unusedVariables false
set_option linter.unusedSimpArgs false
theorem rows_map {α β : Type} {R : α → List Value → Prop} {R' : β → List Value → Prop} {size : Nat} {w : World} {A : Option Addr} {n : Nat} {ps : List α} (f : α → β) (h : ReadsRow R size w A n ps) (hR : ∀ x cs, R x cs → R' (f x) cs) : ReadsRow R' size w A n (ps.map f) := by
  refine ⟨by rw [List.length_map]; exact h.1, h.2.1, fun hn => ?_⟩
  obtain ⟨ad, ha, hc⟩ := h.2.2 hn
  refine ⟨ad, ha, fun j p hp => ?_⟩
  rw [List.getElem?_map] at hp
  cases hj : ps[j]? with
  | none => rw [hj] at hp; simp at hp
  | some q =>
    rw [hj] at hp
    simp only [Option.map_some, Option.some.injEq] at hp
    obtain ⟨c, h1, h2, h3⟩ := hc j q hj
    exact ⟨c, h1, hp ▸ hR q c h2, h3⟩
theorem rows_take {α : Type} {R : α → List Value → Prop} {size : Nat} {w : World} {A : Option Addr} {n : Nat} {ps : List α} (h : ReadsRow R size w A n ps) (m : Nat) (hm : m ≤ n) : ReadsRow R size w A m (ps.take m) := by
  refine ⟨by rw [List.length_take, h.1]; omega, Nat.le_trans hm h.2.1, fun hn => ?_⟩
  obtain ⟨ad, ha, hc⟩ := h.2.2 (by omega)
  refine ⟨ad, ha, fun j p hp => hc j p ?_⟩
  rw [List.getElem?_take] at hp
  split at hp
  · exact hp
  · cases hp
theorem within (x : Int) (n : Nat) (ni : Int) (hni : ni = (n : Int)) (h0 : 0 < n) (hn : n < 100000) : ∃ m : Nat, m < n ∧ ∀ W, Calls Try.prog 11 #[.int .i64 x, .int .i64 ni] W fun e w' => e = .returned (.int .i64 (m : Int)) ∧ Drawn0 W w' := by
  subst hni
  have hw : IntKind.u64.wrap (n : Int) = n := by rw [IntKind.wrap_u64]; omega
  have h1 : 0 ≤ IntKind.u64.wrap x := by rw [IntKind.wrap_u64]; omega
  have h2 : Int.tmod (IntKind.u64.wrap x) n = (IntKind.u64.wrap x) % n := Int.tmod_eq_emod_of_nonneg h1
  have h3 := Int.emod_nonneg (IntKind.u64.wrap x) (show (n : Int) ≠ 0 by omega)
  have h4 := Int.emod_lt_of_pos (IntKind.u64.wrap x) (show (0 : Int) < n by omega)
  refine ⟨((IntKind.u64.wrap x) % n).toNat, by omega, fun W => gimballaw0_Within.calls x n _ W ?_⟩
  unfold gimballaw0_Within.f
  rw [hw, if_neg (by omega), h2]
  congr 1
  unfold wrap64
  omega
theorem addr0 (a : Addr) : a.add (Int.toNat 0 * 3) = a := by
  rw [show Int.toNat 0 * 3 = 0 from rfl]
  obtain ⟨b, o, s⟩ := a
  unfold Addr.add
  cases s <;> simp
theorem regs_read (x X : Dv) (id : Int) (on nn : Nat) (hon : on < 2) (hnn : nn < 256) (hX : x.doesD 1 [(on : Int), (nn : Int)] 0 = X) (hi : x.id = id) (hq : x.q = []) (h0 : 0 ≤ id) (h1 : id ≤ 255) : X.addr = x.addr ∧ X.id = id ∧ X.q = [] ∧ X.doesB 0 [] 4 = [id, (on : Int), (nn : Int), 0] := by
  have hd : x.doesD 1 [(on : Int), (nn : Int)] 0 = (x.power ((on : Int) % 2 == 1)).write 2 (nn : Int) := by
    unfold Dv.doesD
    rw [if_pos (by simp)]
    rfl
  have hw : (x.power ((on : Int) % 2 == 1)).write 2 (nn : Int) = { x.power ((on : Int) % 2 == 1) with per := if (nn : Int) = 0 then 256 else (nn : Int) } := by
    unfold Dv.write
    rw [if_neg (by decide), if_pos rfl]
  rw [hd, hw] at hX
  have hp : (if (nn : Int) = 0 then (256 : Int) else (nn : Int)) % 256 = (nn : Int) := by split <;> omega
  have hid : id % 256 = id := by omega
  match on, hon, hX with
  | 0, _, hX =>
    have e : (((0 : Nat) : Int) % 2 == 1) = false := by decide
    rw [e] at hX
    subst hX
    refine ⟨rfl, hi, rfl, ?_⟩
    rw [doesB_rd]
    show [x.id % 256, 0, (if (nn : Int) = 0 then (256 : Int) else (nn : Int)) % 256, 0] = _
    rw [hp, hi, hid]
    rfl
  | 1, _, hX =>
    have e : (((1 : Nat) : Int) % 2 == 1) = true := by decide
    rw [e] at hX
    subst hX
    cases ho : x.on with
    | true =>
      have e2 : x.power true = x := by unfold Dv.power; rw [if_pos rfl, if_pos ho]
      rw [e2]
      refine ⟨rfl, hi, hq, ?_⟩
      rw [doesB_rd]
      show [x.id % 256, (if x.on = true then 1 else 0), (if (nn : Int) = 0 then (256 : Int) else (nn : Int)) % 256, (x.q.length : Int)] = _
      rw [hp, hi, hid, ho, hq]
      rfl
    | false =>
      have e2 : x.power true = { x with on := true, cnt := 0 } := by unfold Dv.power; rw [if_pos rfl, if_neg (by rw [ho]; exact Bool.noConfusion)]
      rw [e2]
      refine ⟨rfl, hi, hq, ?_⟩
      rw [doesB_rd]
      show [x.id % 256, 1, (if (nn : Int) = 0 then (256 : Int) else (nn : Int)) % 256, (x.q.length : Int)] = _
      rw [hp, hi, hid, hq]
      rfl
theorem drew_size2 (w : World) (n m : Nat) : w.heap.size = ((w.drewN n).drewN m).heap.size := rfl
theorem dev1_ (w : World) (lo hi r : Nat) (D : Bd) (cnt : Int) (h : BusS w lo hi r [D] [] cnt) (ad : Int) (had : D.x.addr = ad) (X : Dv) (hX : D.x = X) : Calls Try.prog 14 #[.pointer (some ⟨r, 0, none⟩), .int .i64 ad] w fun e w' => e = .returned (.tuple #[.agg #[.int .i64 X.addr, .bool X.on, .int .i64 X.per, .int .i64 (X.q.length : Int), .int .i64 X.lost, .int .i64 (X.next : Int)], .int .i64 0]) ∧ Below w.heap.size w w' := by
  subst hX
  have h1 := dev_ w lo hi r [D] [] cnt h ad
  have hf : fi [D] ad = 0 := by unfold fi; rw [← had]; simp [List.findIdx_cons]
  rw [hf, if_pos (by simp), if_pos (by simp)] at h1
  exact h1
theorem put_list {l : List Value} {d : List Value} {n : Nat} {v : Value} : Act.put ⟨l.toArray, []⟩ (some n) v = ⟨(l.set n v).toArray, []⟩ := by
  simp [Act.put]
theorem nilM_C (w : World) : Kd.C k54 w none 0 ([] : List SF) := ⟨rfl, by decide, fun h => absurd h (Nat.lt_irrefl 0)⟩
theorem heavy_ (w : World) (A : Option Addr) (c : Nat) (ms : List SM) (B : Option Addr) (d : Nat) (fs : List SF) (n m : Nat) (hn : ms.length = n) (hm : fs.length = m) (hA : Kd.C k35 w A n ms) (hc : n ≤ c) (hB : Kd.C k54 w B m fs) (hd : m ≤ d) : Calls Try.prog 7 #[.slice A n c, .slice B m d] w fun e w' => ∃ b : Bool, e = .returned (.bool b) ∧ Below w.heap.size w w' := by
  subst hn hm
  obtain ⟨b, k, hk⟩ := heavy_f ms fs
  exact (gimballaw8_Heavy.calls k A c ms B d fs b w hA hc hB hd hk).mono fun e w' h => ⟨b, h.1, by first | exact h.2 | (obtain ⟨n, rfl⟩ := h.2; exact belowD (Below.refl _ _) n)⟩
theorem may_ (w : World) (A : Option Addr) (c : Nat) (ms : List SM) (B : Option Addr) (d : Nat) (fs : List SF) (n m : Nat) (hn : ms.length = n) (hm : fs.length = m) (hA : Kd.C k35 w A n ms) (hc : n ≤ c) (hB : Kd.C k54 w B m fs) (hd : m ≤ d) : Calls Try.prog 8 #[.slice A n c, .slice B m d] w fun e w' => ∃ b : Bool, e = .returned (.bool b) ∧ Aside0 (b = true → GoodM ms fs ∧ ∀ i : Nat, i < ms.length → mOk (rd_T35 ms i)) ∧ Below w.heap.size w w' := by
  subst hn hm
  obtain ⟨b, k, hk, hb⟩ := may_f ms fs
  exact (gimbalref8_May.calls k A c ms B d fs b w hA hc hB hd hk).mono fun e w' h => ⟨b, h.1, ⟨hb⟩, h.2⟩
theorem below_tr {w w1 w2 : World} (h : Below w.heap.size w w1) (k : Below w1.heap.size w1 w2) : Below w.heap.size w w2 := ⟨k.os.trans h.os, k.tape.trans h.tape, k.output.trans h.output, Nat.le_trans h.size k.size, fun i hi => (k.block i (Nat.lt_of_lt_of_le hi h.size)).trans (h.block i hi)⟩
set_option maxHeartbeats 16000000 in
set_option maxRecDepth 100000 in
theorem regs_ (w : World) (A0 : Option Addr) (c0 : Nat) (ms : List SM) (A1 : Option Addr) (n1 c1 : Nat) (A2 : Option Addr) (nL c2 : Nat) (hm : Kd.C k35 w A0 ms.length ms) (hc0 : ms.length ≤ c0) (hnL : nL ≤ 9223372036854775807) (hL : ∀ W, Below w.heap.size w W → ∀ i : Nat, i < nL → ∃ ad d m, A2 = some ad ∧ W.cell? (ad.add (i * 6)) = some (.int .i64 d) ∧ W.cell? ⟨(ad.add (i * 6)).block, (ad.add (i * 6)).off + 5, none⟩ = some (.int .i64 m)) : Calls Try.prog 3 #[.agg #[.slice A0 ms.length c0, .slice A1 n1 c1, .slice A2 nL c2]] w fun e w' => e = .returned (.bool true) ∧ Below w.heap.size w w' := by
  have HM := Aside0.mk hm
  have HL := Aside0.mk hL
  have hml := hm.2.1
  clear hm hL
  go_enter Try.func3, Try.ntmps3
  go_upto_region 1 with fail
  obtain ⟨w1, hw1⟩ : ∃ w1, w1 = w.alloc (.cells #[.slice A0 ms.length c0, .slice A1 n1 c1, .slice A2 nL c2] 26) := ⟨_, rfl⟩
  rw [← hw1]
  have hb1 : Below w.heap.size w w1 := hw1 ▸ below_alloc (Below.refl _ _) _
  have hx1 : w1.heap[w.heap.size]? = some (.cells #[.slice A0 ms.length c0, .slice A1 n1 c1, .slice A2 nL c2] 26 (0, 0)) := by rw [hw1]; exact blk_new w _
  obtain ⟨y, hy⟩ : ∃ y, y = w.heap.size := ⟨_, rfl⟩
  rw [← hy] at hx1 ⊢
  have HB1 := Aside0.mk hb1
  have HX1 := Aside0.mk hx1
  have HY := Aside0.mk hy
  have hyl : y < w1.heap.size := (Array.getElem?_eq_some_iff.1 hx1).1
  have p0 : w1.cell? ⟨y, 0, none⟩ = some (.slice A0 ms.length c0) := (blk_cell hx1 0).trans rfl
  clear hw1 hx1 hy
  have HH := Aside0.mk (heavy_ w1 A0 c0 ms none 0 [] _ 0 rfl rfl (Kd.C_below HM.out hb1) hc0 (nilM_C _) (Nat.le_refl 0))
  clear hb1
  obtain ⟨N, hN⟩ : ∃ N, N = ms.length := ⟨_, rfl⟩
  rw [← hN] at HH HM hc0 hml HX1 p0 ⊢
  have HN := Aside0.mk hN
  clear hN
  by_cases hN0 : N = 0
  · subst hN0
    go_wp2_with (go_at_call 7; with_reducible refine HH.out.mono ?_; rintro e w2 ⟨b, rfl, hb2⟩; have HB2 := Aside0.mk hb2; have q0 := (hb2.cell (p := ⟨y, 0, none⟩) hyl).trans p0; clear hb2; cases b)
    all_goals (go_ret; exact ⟨rfl, below_tr HB1.out HB2.out⟩)
  · have hN1 : 1 ≤ N := by omega
    have hN01 : 0 < N := hN1
    have hNi : ((N : Nat) : Int) ≠ 0 := by omega
    have hNb : ((N : Int) == 0) = false := beq_eq_false_iff_ne.mpr hNi
    have hcN : (1 : Int) ≤ (c0 : Int) := by omega
    have hms : ∃ m rest, ms = m :: rest := by
      cases ms with
      | nil => have := HN.out; simp at this; omega
      | cons m rest => exact ⟨m, rest, rfl⟩
    obtain ⟨m, rest, hms⟩ := hms
    have hM1 : ∀ W, Below w.heap.size w W → Kd.C k35 W A0 1 [m] := fun W hW => by
      have h1 := rows_take (Kd.C_below HM.out hW) 1 hN1
      rw [hms] at h1
      exact h1
    have HM1 := Aside0.mk hM1
    have HMA := Aside0.mk (show ∀ W, Below w.heap.size w W → _ from fun W hW => may_ W A0 c0 [m] none 0 [] 1 0 rfl rfl (hM1 W hW) (by omega) (nilM_C W) (Nat.le_refl 0))
    clear hM1 HM hms HN
    go_upto_if 34 with (first | (go_at_call 7; with_reducible refine HH.out.mono ?_; rintro e w2 ⟨b, rfl, hb2⟩; have HB2 := Aside0.mk hb2; have q0 := (hb2.cell (p := ⟨y, 0, none⟩) hyl).trans p0; clear hb2; cases b) | (go_at_call 8; with_reducible refine (HMA.out _ (below_tr HB1.out HB2.out)).mono ?_; rintro e w3 ⟨b, rfl, HMK, hb3⟩; have HB3 := Aside0.mk hb3; clear hb3; cases b))
    · go_wp2
      go_ret
      exact ⟨rfl, below_tr (below_tr HB1.out HB2.out) HB3.out⟩
    · have hmk : mOk m := (HMK.out (by first | rfl | trivial)).2 0 (by simp)
      have hb3 := below_tr (below_tr HB1.out HB2.out) HB3.out
      have hx3 := (HB3.out.block y (Nat.lt_of_lt_of_le hyl HB2.out.size)).trans ((HB2.out.block y hyl).trans HX1.out)
      have HNW := Aside0.mk (newOne_ w3 A0 c0 m hmk (HM1.out w3 hb3) (by omega))
      have HMO := Aside0.mk hmk
      have HX3 := Aside0.mk hx3
      have HBW3 := Aside0.mk hb3
      clear p0 q0 HX1 HB1 HB2 HB3 HMA HH hmk HMK
      have p0 : w3.cell? ⟨y, 0, none⟩ = some (.slice A0 N c0) := (blk_cell hx3 0).trans rfl
      clear hx3 hb3
      go_upto_region 6 with (first | (go_at_call 9; with_reducible refine HNW.out.mono ?_; rintro e w4 ⟨r, hi, D, rfl, HD, HS4, HB4⟩) | (go_at_call 10; with_reducible refine (num_ _ _).mono ?_; rintro e w' ⟨rfl, nd, rfl⟩))
      have hb4 := below_tr HBW3.out HB4.out
      have hx4 := (HB4.out.block y (Array.getElem?_eq_some_iff.1 HX3.out).1).trans HX3.out
      have HX4 := Aside0.mk hx4
      have HB4b := Aside0.mk HB4.out
      have hy3 := (Array.getElem?_eq_some_iff.1 HX3.out).1
      have HBW4 := Aside0.mk hb4
      have HL3 := Aside0.mk HBW3.out.size
      obtain ⟨a0, A9, c9, rfl, _⟩ := at_T35 (HM1.out _ (belowD hb4 nd)) 0 (by omega) (by omega)
      have HMC := Aside0.mk (show ∀ W, Below w.heap.size w W → W.cell? a0 = some (.int .i64 m.f0) ∧ W.cell? ⟨a0.block, a0.off + 1, none⟩ = some (.int .i64 m.f1) from fun W hW => by
        obtain ⟨a1, _, _, e, k0, k1, _⟩ := at_T35 (HM1.out _ hW) 0 (by omega) (by omega)
        simp only [Option.some.injEq] at e
        subst e
        have e0 : a0.add (Int.toNat 0 * 3) = a0 := addr0 a0
        rw [e0] at k0 k1
        exact ⟨k0, k1⟩)
      clear p0 HM1 HNW HB4 hyl
      obtain ⟨m0, m1⟩ := HMC.out _ (belowD hb4 nd)
      have p0 : (w4.drewN nd).cell? ⟨y, 0, none⟩ = some (.slice (some a0) N c0) := (blk_cell hx4 0).trans rfl
      clear hx4 hb4
      go_upto_region 7 with fail
      have HBX := Aside0.mk (show ∀ W, Below w3.heap.size w3 W → Below w.heap.size w W ∧ W.cell? ⟨y, 0, none⟩ = some (.slice (some a0) N c0) ∧ W.cell? ⟨y, 2, none⟩ = some (.slice A2 nL c2) ∧ W.cell? a0 = some (.int .i64 m.f0) ∧ W.cell? ⟨a0.block, a0.off + 1, none⟩ = some (.int .i64 m.f1) from fun W hW => by
        have h1 := below_tr HBW3.out hW
        have h2 := HMC.out W h1
        have hx := (hW.block y hy3).trans HX3.out
        exact ⟨h1, (blk_cell hx 0).trans rfl, (blk_cell hx 2).trans rfl, h2.1, h2.2⟩)
      have HS5 := Aside0.mk (show ∃ E : Bd, BusS (w4.drewN nd) w3.heap.size hi r [E] [] ((2 * (0 : Nat) : Nat) : Int) ∧ E.x.addr = m.f0 ∧ E.x.id = m.f1 ∧ E.x.q = [] from ⟨D, HS4.out.drewN nd, by rw [HD.out.1]; rfl, by rw [HD.out.1]; rfl, by rw [HD.out.1]; rfl⟩)
      have HB5 := Aside0.mk (belowD HB4b.out nd)
      generalize w4.drewN nd = w5 at *
      clear p0 m0 m1 HX4 HBW4 HD HS4 HMC HB4b
      go_upto_block 0 with fail
      refine Cu.wp_cut (Cu.rep 1 Cu.t (Cu.rep 5 Cu.f (Cu.rep 115 Cu.t (Cu.rep 59 Cu.f [])))) 116 (fun us_ w' => ∃ (i : Nat) (E : Bd), Aside0 (i ≤ 12) ∧ Aside0 (BusS w' w3.heap.size hi r [E] [] ((2 * i : Nat) : Int) ∧ E.x.addr = m.f0 ∧ E.x.id = m.f1 ∧ E.x.q = []) ∧ Aside0 (Below w3.heap.size w3 w')) ?_ ?_
      rotate_left
      · clear HS5 HB5
        intro wr u0 u6 u7 u8 u9 u10 u11 u12 u13 u14 u15 u16 u17 u18 u19 u20 u21 u22 u23 u24 u25 u26 u27 u28 u29 u30 u31 u32 u33 u34 u35 u36 u37 u38 u39 u40 u41 u42 u43 u44 u45 u46 u47 u48 u49 u50 u51 u52 u53 u54 u55 u56 u57 u58 u59 u60 u61 u62 u63 u64 u65 u66 u67 u68 u69 u70 u71 u72 u73 u74 u75 u76 u77 u78 u79 u80 u81 u82 u83 u84 u85 u86 u87 u88 u89 u90 u91 u92 u93 u94 u95 u96 u97 u98 u99 u100 u101 u102 u103 u104 u105 u106 u107 u108 u109 u110 u111 u112 u113 u114 u115 u116 u117 u118 u119 u120
        try dsimp only [Cu.over, Cu.rep, Cu.nth]
        intro hrel
        obtain ⟨i, E, HK, HE, HB⟩ := hrel
        obtain ⟨hbw, p0, p2, m0, m1⟩ := HBX.out wr HB.out
        obtain ⟨hE, hEa, hEi, hEq⟩ := HE.out
        have hk := HK.out
        have hmo := HMO.out
        obtain ⟨X, hX⟩ : ∃ X, E.x.doesD 5 [182] 0 = X := ⟨_, rfl⟩
        have HW1 := Aside0.mk (fun W b (hbb : b = W.heap.size) (h : BusS W w3.heap.size hi r [E] [] ((2 * i : Nat) : Int)) => doW1_ W _ hi r E _ h (by omega) (by omega) m.f0 5 hEa 182 (by decide) (by decide) ⟨hmo.1, hmo.2.1, by decide, by decide, by simp, fun _ => rfl, by simp, by decide⟩ X hX b hbb)
        have hXX : X = { E.x.power false with per := 1 } := by
          rw [← hX]
          unfold Dv.doesD
          rw [if_pos (by simp)]
          show E.x.write 5 182 = _
          unfold Dv.write
          rw [if_neg (by decide), if_neg (by decide), if_pos ⟨rfl, rfl⟩]
        have hXp : X = { E.x with on := false, q := [], per := 1 } := by rw [hXX]; rfl
        have hXr : X.doesB 0 [] 4 = [m.f1, 0, 1, 0] := by
          rw [hXp, doesB_rd]
          show [E.x.id % 256, 0, 1 % 256, 0] = _
          rw [hEi, show m.f1 % 256 = m.f1 by have := hmo.2.2.1; have := hmo.2.2.2.1; omega]
          rfl
        have HRD := Aside0.mk (fun W (h : BusS W w3.heap.size hi r [{ E with x := X }] [] (((2 * i : Nat) : Int) + 1)) => doRd_ W _ hi r { E with x := X } _ h (by omega) (by omega) m.f0 0 (by show X.addr = m.f0; rw [hXp]; exact hEa) 4 4 rfl (goodRd hmo.1 hmo.2.1 (by decide) (by decide) (by decide) (by decide)) [m.f1, 0, 1, 0] hXr 4 rfl X (doesD_rd _ _ _ (by decide)))
        have HDV := Aside0.mk (fun W (h : BusS W w3.heap.size hi r [{ E with x := X }] [] (((2 * i : Nat) : Int) + 1 + 1)) => dev1_ W _ hi r { E with x := X } _ h m.f0 (by show X.addr = m.f0; rw [hXp]; exact hEa) X rfl)
        have HXP := Aside0.mk (And.intro (show X.on = false by rw [hXp]) (show X.per = 1 by rw [hXp]))
        have HEE := Aside0.mk hE
        clear hmo hX hXX hXp hXr hE hEa hEi hEq HE hk
        go_upto_region 17 with (go_at_call 12; with_reducible refine (HW1.out _ _ rfl HEE.out).mono ?_; rintro e w6 ⟨A6, c6, rfl, HS6, HF6⟩)
        obtain ⟨w7, hw7⟩ : ∃ w7, w7 = w6.alloc (.cells #[.int .i64 1, .slice A6 0 c6] 43) := ⟨_, rfl⟩
        rw [← hw7]
        have hb7 : Below w6.heap.size w6 w7 := hw7 ▸ below_alloc (Below.refl _ _) _
        have hf6 : Below w3.heap.size w3 w6 := HF6.out.belowB HB.out (fun k hk => hk.1) HB.out.size
        have HB7 := Aside0.mk (below_tr hf6 hb7)
        have HS7 := Aside0.mk (HS6.out.below hb7)
        clear hw7 hb7 hf6 HS6 HF6 HW1 HEE HB p0 p2 m0 m1 hbw
        go_upto_region 18 with (go_at_call 12; with_reducible refine (HRD.out _ HS7.out).mono ?_; rintro e w8 ⟨A8, c8, rfl, HA8, HS8, HF8⟩)
        obtain ⟨w9, hw9⟩ : ∃ w9, w9 = w8.alloc (.cells #[.int .i64 1, .slice A8 4 c8] 43) := ⟨_, rfl⟩
        rw [← hw9]
        have hb9 : Below w8.heap.size w8 w9 := hw9 ▸ below_alloc (Below.refl _ _) _
        have hx9 : w9.heap[w8.heap.size]? = some (.cells #[.int .i64 1, .slice A8 4 c8] 43 (0, 0)) := by rw [hw9]; exact blk_new w8 _
        have hf8 : Below w3.heap.size w3 w8 := HF8.out.belowB HB7.out (fun k hk => hk.1) HB7.out.size
        have HB9 := Aside0.mk (below_tr hf8 hb9)
        have HB89 := Aside0.mk hb9
        have HS9 := Aside0.mk (HS8.out.below hb9)
        obtain ⟨z9, hz9⟩ : ∃ z9, z9 = w8.heap.size := ⟨_, rfl⟩
        rw [← hz9] at hx9 ⊢
        have HX9 := Aside0.mk hx9
        clear hw9 hb9 hx9 hf8 hz9 HF8 HS8 HB7 HS7 HRD
        refine Cu.wp_cut (Cu.rep 1 Cu.t (Cu.rep 1 Cu.f (Cu.rep 140 Cu.t (Cu.rep 38 Cu.f [])))) 141 (fun us_ wc => ∃ (z9 z11 : Nat) (A8 : Option Addr) (c8 : Nat), (Cu.nth us_ 13) = .int .i64 0 ∧ (Cu.nth us_ 14) = .pointer (some ⟨z9, 0, none⟩) ∧ (Cu.nth us_ 15) = .int .i64 0 ∧ (Cu.nth us_ 16) = .pointer (some ⟨z11, 0, none⟩) ∧ (Cu.nth us_ 17) = .int .i64 0 ∧ Aside0 (wc.cell? ⟨z9, 1, none⟩ = some (.slice A8 4 c8) ∧ wc.cell? ⟨y, 0, none⟩ = some (.slice (some a0) N c0) ∧ wc.cell? ⟨a0.block, a0.off + 1, none⟩ = some (.int .i64 m.f1) ∧ wc.cell? ⟨z11, 1, none⟩ = some (.bool false) ∧ wc.cell? ⟨z11, 2, none⟩ = some (.int .i64 1)) ∧ Aside0 (∀ (k b : Nat), b = (wc.drewN k).heap.size → Calls Try.prog 13 #[.slice A8 4 c8, .slice (some ⟨b, 0, none⟩) 4 4] ((wc.drewN k).alloc (.cells #[.int .u8 m.f1, .int .u8 0, .int .u8 1, .int .u8 0] 5)) fun e w' => e = .returned (.bool true) ∧ Drawn0 ((wc.drewN k).alloc (.cells #[.int .u8 m.f1, .int .u8 0, .int .u8 1, .int .u8 0] 5)) w') ∧ Aside0 (Below w.heap.size w wc)) ?_ ?_
        rotate_left
        · clear HS9 HA8 HB9 HB89 HX9 HDV HXP
          intro w11 x0 x2 x3 x4 x5 x6 x7 x8 x9 x10 x11 x12 x13 x14 x15 x16 x17 x18 x19 x20 x21 x22 x23 x24 x25 x26 x27 x28 x29 x30 x31 x32 x33 x34 x35 x36 x37 x38 x39 x40 x41 x42 x43 x44 x45 x46 x47 x48 x49 x50 x51 x52 x53 x54 x55 x56 x57 x58 x59 x60 x61 x62 x63 x64 x65 x66 x67 x68 x69 x70 x71 x72 x73 x74 x75 x76 x77 x78 x79 x80 x81 x82 x83 x84 x85 x86 x87 x88 x89 x90 x91 x92 x93 x94 x95 x96 x97 x98 x99 x100 x101 x102 x103 x104 x105 x106 x107 x108 x109 x110 x111 x112 x113 x114 x115 x116 x117 x118 x119 x120 x121 x122 x123 x124 x125 x126 x127 x128 x129 x130 x131 x132 x133 x134 x135 x136 x137 x138 x139 x140 x141
          try dsimp only [Cu.over, Cu.rep, Cu.nth]
          rintro ⟨z9, z11, A8, c8, rfl, rfl, rfl, rfl, rfl, HQ, HEQ, HBW⟩
          obtain ⟨q1, p0, m1, v1, v2⟩ := HQ.out
          have cf : IntKind.u8.wrap m.f1 = m.f1 := by have := HMO.out; rw [IntKind.wrap_u8]; have h1 := this.2.2.1; have h2 := this.2.2.2.1; omega
          clear HQ
          go_upto_region 19 with fail
          refine start_ (n := 39) (S := fun w' => w'.cell? ⟨z9, 1, none⟩ = some (.slice A8 4 c8) ∧ w'.cell? ⟨y, 0, none⟩ = some (.slice (some a0) N c0) ∧ w'.cell? ⟨a0.block, a0.off + 1, none⟩ = some (.int .i64 m.f1) ∧ w'.cell? ⟨z11, 1, none⟩ = some (.bool false) ∧ w'.cell? ⟨z11, 2, none⟩ = some (.int .i64 1)) (ds := [36]) #[false, false, false, false, false, false, false, false, false, false, false, false, false, false, false, false, false, false, false, false, false, false, false, false, false, false, false, false, false, false, false, false, false, false, false, false, false, false, false] (by kernel_rfl) rfl rfl ⟨q1, p0, m1, v1, v2⟩ (fun hHeld => ?_)
          refine pure_ (i := 0) (N := some 142) (v := ?_) (a' := ?_) #[true, false, false, false, false, false, false, false, false, false, false, false, false, false, false, false, false, false, false, false, false, false, false, false, false, false, false, false, false, false, false, false, false, false, false, false, false, false, false] rfl rfl (by decide +kernel) (fun _ _ _ h => h) (Or.inl ⟨by rfl, ?_⟩) ?_ ?_
          rotate_left
          · intro w'
            go_simp
            with_reducible rfl
          rotate_left
          · first | (rw [put_list]; dsimp only [List.set_cons_zero, List.set_cons_succ]) | simp only [Act.put, List.setIfInBounds_toArray, List.set_cons_zero, List.set_cons_succ, i64_w, i32_w]
            rfl
          refine one_ (i := 1) (N := some 143) #[true, true, false, false, false, false, false, false, false, false, false, false, false, false, false, false, false, false, false, false, false, false, false, false, false, false, false, false, false, false, false, false, false, false, false, false, false, false, false] rfl rfl (by decide +kernel) (by decide) (fun K hK => ?_)
          refine goes_ Try.func10 (by kernel_rfl) rfl #[.int .i64 0] (by rfl) rfl rfl (by simp only [List.map_toArray, List.map_cons, List.map_nil]; rfl) ?_
          with_reducible refine (num_ _ _).mono ?_
          rintro e wa ⟨rfl, n1, rfl⟩
          refine ⟨_, rfl, ?_⟩
          refine hK.out _ _ ⟨hHeld.1, hHeld.2.1, hHeld.2.2.1, hHeld.2.2.2.1, hHeld.2.2.2.2⟩ (fun hHeld => ?_)
          clear hK K
          refine norm_ (a' := ?_) ?_ ?_
          rotate_left
          · show Act.put _ (some 143) _ = _
            first | (rw [put_list]; dsimp only [List.set_cons_zero, List.set_cons_succ]) | simp only [Act.put, List.setIfInBounds_toArray, List.set_cons_zero, List.set_cons_succ, i64_w, i32_w]
            rfl
          refine pure_ (i := 2) (N := some 144) (v := ?_) (a' := ?_) #[true, true, true, false, false, false, false, false, false, false, false, false, false, false, false, false, false, false, false, false, false, false, false, false, false, false, false, false, false, false, false, false, false, false, false, false, false, false, false] rfl rfl (by decide +kernel) (fun _ _ _ h => h) (Or.inl ⟨by rfl, ?_⟩) ?_ ?_
          rotate_left
          · intro w'
            go_simp
            with_reducible rfl
          rotate_left
          · first | (rw [put_list]; dsimp only [List.set_cons_zero, List.set_cons_succ]) | simp only [Act.put, List.setIfInBounds_toArray, List.set_cons_zero, List.set_cons_succ, i64_w, i32_w]
            rfl
          refine pure_ (i := 3) (N := some 145) (v := ?_) (a' := ?_) #[true, true, true, true, false, false, false, false, false, false, false, false, false, false, false, false, false, false, false, false, false, false, false, false, false, false, false, false, false, false, false, false, false, false, false, false, false, false, false] rfl rfl (by decide +kernel) (fun _ _ _ h => h) (Or.inl ⟨by rfl, ?_⟩) ?_ ?_
          rotate_left
          · intro w'
            go_simp
            with_reducible rfl
          rotate_left
          · first | (rw [put_list]; dsimp only [List.set_cons_zero, List.set_cons_succ]) | simp only [Act.put, List.setIfInBounds_toArray, List.set_cons_zero, List.set_cons_succ, i64_w, i32_w]
            rfl
          refine pure_ (i := 4) (N := some 146) (v := ?_) (a' := ?_) #[true, true, true, true, true, false, false, false, false, false, false, false, false, false, false, false, false, false, false, false, false, false, false, false, false, false, false, false, false, false, false, false, false, false, false, false, false, false, false] rfl rfl (by decide +kernel) (fun _ _ _ h => h) (Or.inl ⟨by rfl, ?_⟩) ?_ ?_
          rotate_left
          · intro w'
            go_simp
            with_reducible rfl
          rotate_left
          · first | (rw [put_list]; dsimp only [List.set_cons_zero, List.set_cons_succ]) | simp only [Act.put, List.setIfInBounds_toArray, List.set_cons_zero, List.set_cons_succ, i64_w, i32_w]
            rfl
          refine one_ (i := 5) (N := some 147) #[true, true, true, true, true, true, false, false, false, false, false, false, false, false, false, false, false, false, false, false, false, false, false, false, false, false, false, false, false, false, false, false, false, false, false, false, false, false, false] rfl rfl (by decide +kernel) (by decide) (fun K hK => ?_)
          refine goes_ Try.func10 (by kernel_rfl) rfl #[.int .i64 0] (by rfl) rfl rfl (by simp only [List.map_toArray, List.map_cons, List.map_nil]; rfl) ?_
          with_reducible refine (num_ _ _).mono ?_
          rintro e wa ⟨rfl, n2, rfl⟩
          refine ⟨_, rfl, ?_⟩
          refine hK.out _ _ ⟨hHeld.1, hHeld.2.1, hHeld.2.2.1, hHeld.2.2.2.1, hHeld.2.2.2.2⟩ (fun hHeld => ?_)
          clear hK K
          refine norm_ (a' := ?_) ?_ ?_
          rotate_left
          · show Act.put _ (some 147) _ = _
            first | (rw [put_list]; dsimp only [List.set_cons_zero, List.set_cons_succ]) | simp only [Act.put, List.setIfInBounds_toArray, List.set_cons_zero, List.set_cons_succ, i64_w, i32_w]
            rfl
          refine pure_ (i := 6) (N := some 148) (v := ?_) (a' := ?_) #[true, true, true, true, true, true, true, false, false, false, false, false, false, false, false, false, false, false, false, false, false, false, false, false, false, false, false, false, false, false, false, false, false, false, false, false, false, false, false] rfl rfl (by decide +kernel) (fun _ _ _ h => h) (Or.inl ⟨by rfl, ?_⟩) ?_ ?_
          rotate_left
          · intro w'
            go_simp
            with_reducible rfl
          rotate_left
          · first | (rw [put_list]; dsimp only [List.set_cons_zero, List.set_cons_succ]) | simp only [Act.put, List.setIfInBounds_toArray, List.set_cons_zero, List.set_cons_succ, i64_w, i32_w]
            rfl
          refine pure_ (i := 7) (N := some 149) (v := ?_) (a' := ?_) #[true, true, true, true, true, true, true, true, false, false, false, false, false, false, false, false, false, false, false, false, false, false, false, false, false, false, false, false, false, false, false, false, false, false, false, false, false, false, false] rfl rfl (by decide +kernel) (fun _ _ _ h => h) (Or.inl ⟨by rfl, ?_⟩) ?_ ?_
          rotate_left
          · intro w'
            go_simp
            with_reducible rfl
          rotate_left
          · first | (rw [put_list]; dsimp only [List.set_cons_zero, List.set_cons_succ]) | simp only [Act.put, List.setIfInBounds_toArray, List.set_cons_zero, List.set_cons_succ, i64_w, i32_w]
            rfl
          refine pure_ (i := 8) (N := some 150) (v := ?_) (a' := ?_) #[true, true, true, true, true, true, true, true, true, false, false, false, false, false, false, false, false, false, false, false, false, false, false, false, false, false, false, false, false, false, false, false, false, false, false, false, false, false, false] rfl rfl (by decide +kernel) (fun _ _ _ h => h) (Or.inl ⟨by rfl, ?_⟩) ?_ ?_
          rotate_left
          · intro w'
            go_simp
            with_reducible rfl
          rotate_left
          · first | (rw [put_list]; dsimp only [List.set_cons_zero, List.set_cons_succ]) | simp only [Act.put, List.setIfInBounds_toArray, List.set_cons_zero, List.set_cons_succ, i64_w, i32_w]
            rfl
          refine pure_ (i := 9) (N := some 151) (v := ?_) (a' := ?_) #[true, true, true, true, true, true, true, true, true, true, false, false, false, false, false, false, false, false, false, false, false, false, false, false, false, false, false, false, false, false, false, false, false, false, false, false, false, false, false] rfl rfl (by decide +kernel) (fun _ _ _ h => h) (Or.inl ⟨by rfl, ?_⟩) ?_ ?_
          rotate_left
          · intro w'
            go_simp
            with_reducible rfl
          rotate_left
          · first | (rw [put_list]; dsimp only [List.set_cons_zero, List.set_cons_succ]) | simp only [Act.put, List.setIfInBounds_toArray, List.set_cons_zero, List.set_cons_succ, i64_w, i32_w]
            rfl
          refine one_ (i := 10) (N := some 152) #[true, true, true, true, true, true, true, true, true, true, true, false, false, false, false, false, false, false, false, false, false, false, false, false, false, false, false, false, false, false, false, false, false, false, false, false, false, false, false] rfl rfl (by decide +kernel) (by decide) (fun K hK => ?_)
          refine goes_ Try.func10 (by kernel_rfl) rfl #[.int .i64 0] (by rfl) rfl rfl (by simp only [List.map_toArray, List.map_cons, List.map_nil]; rfl) ?_
          with_reducible refine (num_ _ _).mono ?_
          rintro e wa ⟨rfl, n3, rfl⟩
          refine ⟨_, rfl, ?_⟩
          refine hK.out _ _ ⟨hHeld.1, hHeld.2.1, hHeld.2.2.1, hHeld.2.2.2.1, hHeld.2.2.2.2⟩ (fun hHeld => ?_)
          clear hK K
          refine norm_ (a' := ?_) ?_ ?_
          rotate_left
          · show Act.put _ (some 152) _ = _
            first | (rw [put_list]; dsimp only [List.set_cons_zero, List.set_cons_succ]) | simp only [Act.put, List.setIfInBounds_toArray, List.set_cons_zero, List.set_cons_succ, i64_w, i32_w]
            rfl
          refine pure_ (i := 11) (N := some 153) (v := ?_) (a' := ?_) #[true, true, true, true, true, true, true, true, true, true, true, true, false, false, false, false, false, false, false, false, false, false, false, false, false, false, false, false, false, false, false, false, false, false, false, false, false, false, false] rfl rfl (by decide +kernel) (fun _ _ _ h => h) (Or.inl ⟨by rfl, ?_⟩) ?_ ?_
          rotate_left
          · intro w'
            go_simp
            with_reducible rfl
          rotate_left
          · first | (rw [put_list]; dsimp only [List.set_cons_zero, List.set_cons_succ]) | simp only [Act.put, List.setIfInBounds_toArray, List.set_cons_zero, List.set_cons_succ, i64_w, i32_w]
            rfl
          refine pure_ (i := 12) (N := some 154) (v := ?_) (a' := ?_) #[true, true, true, true, true, true, true, true, true, true, true, true, true, false, false, false, false, false, false, false, false, false, false, false, false, false, false, false, false, false, false, false, false, false, false, false, false, false, false] rfl rfl (by decide +kernel) (fun _ _ _ h => h) (Or.inl ⟨by rfl, ?_⟩) ?_ ?_
          rotate_left
          · intro w'
            go_simp
            with_reducible rfl
          rotate_left
          · first | (rw [put_list]; dsimp only [List.set_cons_zero, List.set_cons_succ]) | simp only [Act.put, List.setIfInBounds_toArray, List.set_cons_zero, List.set_cons_succ, i64_w, i32_w]
            rfl
          refine pure_ (i := 13) (N := some 155) (v := ?_) (a' := ?_) #[true, true, true, true, true, true, true, true, true, true, true, true, true, true, false, false, false, false, false, false, false, false, false, false, false, false, false, false, false, false, false, false, false, false, false, false, false, false, false] rfl rfl (by decide +kernel) (fun _ _ _ h => h) (Or.inl ⟨by rfl, ?_⟩) ?_ ?_
          rotate_left
          · intro w'
            go_simp
            with_reducible rfl
          rotate_left
          · first | (rw [put_list]; dsimp only [List.set_cons_zero, List.set_cons_succ]) | simp only [Act.put, List.setIfInBounds_toArray, List.set_cons_zero, List.set_cons_succ, i64_w, i32_w]
            rfl
          refine pure_ (i := 14) (N := some 156) (v := ?_) (a' := ?_) #[true, true, true, true, true, true, true, true, true, true, true, true, true, true, true, false, false, false, false, false, false, false, false, false, false, false, false, false, false, false, false, false, false, false, false, false, false, false, false] rfl rfl (by decide +kernel) (fun _ _ _ h => h) (Or.inl ⟨by rfl, ?_⟩) ?_ ?_
          rotate_left
          · intro w'
            go_simp
            with_reducible rfl
          rotate_left
          · first | (rw [put_list]; dsimp only [List.set_cons_zero, List.set_cons_succ]) | simp only [Act.put, List.setIfInBounds_toArray, List.set_cons_zero, List.set_cons_succ, i64_w, i32_w]
            rfl
          refine pure_ (i := 16) (N := some 158) (v := ?_) (a' := ?_) #[true, true, true, true, true, true, true, true, true, true, true, true, true, true, true, false, true, false, false, false, false, false, false, false, false, false, false, false, false, false, false, false, false, false, false, false, false, false, false] rfl rfl (by decide +kernel) (fun _ _ _ h => h) (Or.inl ⟨by rfl, ?_⟩) ?_ ?_
          rotate_left
          · intro w'
            go_simp
            with_reducible rfl
          rotate_left
          · first | (rw [put_list]; dsimp only [List.set_cons_zero, List.set_cons_succ]) | simp only [Act.put, List.setIfInBounds_toArray, List.set_cons_zero, List.set_cons_succ, i64_w, i32_w]
            rfl
          refine take_ (i := 15) (N := some 157) (v := ?_) (a' := ?_) #[true, true, true, true, true, true, true, true, true, true, true, true, true, true, true, true, true, false, false, false, false, false, false, false, false, false, false, false, false, false, false, false, false, false, false, false, false, false, false] rfl rfl (by decide +kernel) (fun _ _ _ h => h) (Or.inl ⟨by rfl, ?_⟩) hHeld ?_ ?_
          rotate_left
          · rintro w' ⟨s0, s1, s2, s3, s4⟩
            go_simp
            with_reducible rfl
          rotate_left
          · first | (rw [put_list]; dsimp only [List.set_cons_zero, List.set_cons_succ]) | simp only [Act.put, List.setIfInBounds_toArray, List.set_cons_zero, List.set_cons_succ, i64_w, i32_w]
            rfl
          refine take_ (i := 17) (N := some 159) (v := ?_) (a' := ?_) #[true, true, true, true, true, true, true, true, true, true, true, true, true, true, true, true, true, true, false, false, false, false, false, false, false, false, false, false, false, false, false, false, false, false, false, false, false, false, false] rfl rfl (by decide +kernel) (fun _ _ _ h => h) (Or.inl ⟨by rfl, ?_⟩) hHeld ?_ ?_
          rotate_left
          · rintro w' ⟨s0, s1, s2, s3, s4⟩
            go_simp
            with_reducible rfl
          rotate_left
          · first | (rw [put_list]; dsimp only [List.set_cons_zero, List.set_cons_succ]) | simp only [Act.put, List.setIfInBounds_toArray, List.set_cons_zero, List.set_cons_succ, i64_w, i32_w]
            rfl
          refine pure_ (i := 18) (N := some 160) (v := ?_) (a' := ?_) #[true, true, true, true, true, true, true, true, true, true, true, true, true, true, true, true, true, true, true, false, false, false, false, false, false, false, false, false, false, false, false, false, false, false, false, false, false, false, false] rfl rfl (by decide +kernel) (fun _ _ _ h => h) (Or.inl ⟨by rfl, ?_⟩) ?_ ?_
          rotate_left
          · intro w'
            go_simp
            with_reducible rfl
          rotate_left
          · first | (rw [put_list]; dsimp only [List.set_cons_zero, List.set_cons_succ]) | simp only [Act.put, List.setIfInBounds_toArray, List.set_cons_zero, List.set_cons_succ, i64_w, i32_w]
            rfl
          refine pure_ (i := 19) (N := some 161) (v := ?_) (a' := ?_) #[true, true, true, true, true, true, true, true, true, true, true, true, true, true, true, true, true, true, true, true, false, false, false, false, false, false, false, false, false, false, false, false, false, false, false, false, false, false, false] rfl rfl (by decide +kernel) (fun _ _ _ h => h) (Or.inl ⟨by rfl, ?_⟩) ?_ ?_
          rotate_left
          · intro w'
            go_simp
            with_reducible rfl
          rotate_left
          · first | (rw [put_list]; dsimp only [List.set_cons_zero, List.set_cons_succ]) | simp only [Act.put, List.setIfInBounds_toArray, List.set_cons_zero, List.set_cons_succ, i64_w, i32_w]
            rfl
          refine take_ (i := 20) (N := some 162) (v := ?_) (a' := ?_) #[true, true, true, true, true, true, true, true, true, true, true, true, true, true, true, true, true, true, true, true, true, false, false, false, false, false, false, false, false, false, false, false, false, false, false, false, false, false, false] rfl rfl (by decide +kernel) (fun _ _ _ h => h) (Or.inl ⟨by rfl, ?_⟩) hHeld ?_ ?_
          rotate_left
          · rintro w' ⟨s0, s1, s2, s3, s4⟩
            go_simp
            with_reducible rfl
          rotate_left
          · first | (rw [put_list]; dsimp only [List.set_cons_zero, List.set_cons_succ]) | simp only [Act.put, List.setIfInBounds_toArray, List.set_cons_zero, List.set_cons_succ, i64_w, i32_w]
            rfl
          refine pure_ (i := 21) (N := some 163) (v := ?_) (a' := ?_) #[true, true, true, true, true, true, true, true, true, true, true, true, true, true, true, true, true, true, true, true, true, true, false, false, false, false, false, false, false, false, false, false, false, false, false, false, false, false, false] rfl rfl (by decide +kernel) (fun _ _ _ h => h) (Or.inl ⟨by rfl, ?_⟩) ?_ ?_
          rotate_left
          · intro w'
            go_simp
            with_reducible rfl
          rotate_left
          · first | (rw [put_list]; dsimp only [List.set_cons_zero, List.set_cons_succ]) | simp only [Act.put, List.setIfInBounds_toArray, List.set_cons_zero, List.set_cons_succ, i64_w, i32_w]
            rfl
          refine one_ (i := 22) (N := some 164) #[true, true, true, true, true, true, true, true, true, true, true, true, true, true, true, true, true, true, true, true, true, true, true, false, false, false, false, false, false, false, false, false, false, false, false, false, false, false, false] rfl rfl (by decide +kernel) (by decide) (fun K hK => ?_)
          refine value_ (w1 := ?_) (v := ?_) (by rfl) rfl ?_ ?_
          rotate_left 2
          · go_simp
            constructor
            · rfl
            · rfl
          refine hK.out _ _ ⟨(World.cell?_alloc_lt _ _ _ (World.block_lt_of_cell? _ _ hHeld.1)).trans hHeld.1, (World.cell?_alloc_lt _ _ _ (World.block_lt_of_cell? _ _ hHeld.2.1)).trans hHeld.2.1, (World.cell?_alloc_lt _ _ _ (World.block_lt_of_cell? _ _ hHeld.2.2.1)).trans hHeld.2.2.1, (World.cell?_alloc_lt _ _ _ (World.block_lt_of_cell? _ _ hHeld.2.2.2.1)).trans hHeld.2.2.2.1, (World.cell?_alloc_lt _ _ _ (World.block_lt_of_cell? _ _ hHeld.2.2.2.2)).trans hHeld.2.2.2.2⟩ (fun hHeld => ?_)
          clear hK K
          refine norm_ (a' := ?_) ?_ ?_
          rotate_left
          · show Act.put _ (some 164) _ = _
            first | (rw [put_list]; dsimp only [List.set_cons_zero, List.set_cons_succ]) | simp only [Act.put, List.setIfInBounds_toArray, List.set_cons_zero, List.set_cons_succ, i64_w, i32_w]
            rfl
          refine one_ (i := 23) (N := some 165) #[true, true, true, true, true, true, true, true, true, true, true, true, true, true, true, true, true, true, true, true, true, true, true, true, false, false, false, false, false, false, false, false, false, false, false, false, false, false, false] rfl rfl (by decide +kernel) (by decide) (fun K hK => ?_)
          refine goes_ Try.func13 (by kernel_rfl) rfl #[.slice A8 4 c8, .slice (some ⟨w11.heap.size, 0, none⟩) 4 4] (by rfl) rfl rfl (by simp only [List.map_toArray, List.map_cons, List.map_nil]; rfl) ?_
          with_reducible refine (HEQ.out _ _ (drew_size _ _)).mono ?_
          rintro e wa ⟨rfl, n4, rfl⟩
          refine ⟨_, rfl, ?_⟩
          refine hK.out _ _ ⟨hHeld.1, hHeld.2.1, hHeld.2.2.1, hHeld.2.2.2.1, hHeld.2.2.2.2⟩ (fun hHeld => ?_)
          clear hK K
          refine norm_ (a' := ?_) ?_ ?_
          rotate_left
          · show Act.put _ (some 165) _ = _
            first | (rw [put_list]; dsimp only [List.set_cons_zero, List.set_cons_succ]) | simp only [Act.put, List.setIfInBounds_toArray, List.set_cons_zero, List.set_cons_succ, i64_w, i32_w]
            rfl
          refine pure_ (i := 24) (N := some 166) (v := ?_) (a' := ?_) #[true, true, true, true, true, true, true, true, true, true, true, true, true, true, true, true, true, true, true, true, true, true, true, true, true, false, false, false, false, false, false, false, false, false, false, false, false, false, false] rfl rfl (by decide +kernel) (fun _ _ _ h => h) (Or.inl ⟨by rfl, ?_⟩) ?_ ?_
          rotate_left
          · intro w'
            go_simp
            with_reducible rfl
          rotate_left
          · first | (rw [put_list]; dsimp only [List.set_cons_zero, List.set_cons_succ]) | simp only [Act.put, List.setIfInBounds_toArray, List.set_cons_zero, List.set_cons_succ, i64_w, i32_w]
            rfl
          refine pure_ (i := 25) (N := some 167) (v := ?_) (a' := ?_) #[true, true, true, true, true, true, true, true, true, true, true, true, true, true, true, true, true, true, true, true, true, true, true, true, true, true, false, false, false, false, false, false, false, false, false, false, false, false, false] rfl rfl (by decide +kernel) (fun _ _ _ h => h) (Or.inl ⟨by rfl, ?_⟩) ?_ ?_
          rotate_left
          · intro w'
            go_simp
            with_reducible rfl
          rotate_left
          · first | (rw [put_list]; dsimp only [List.set_cons_zero, List.set_cons_succ]) | simp only [Act.put, List.setIfInBounds_toArray, List.set_cons_zero, List.set_cons_succ, i64_w, i32_w]
            rfl
          refine pure_ (i := 26) (N := some 168) (v := ?_) (a' := ?_) #[true, true, true, true, true, true, true, true, true, true, true, true, true, true, true, true, true, true, true, true, true, true, true, true, true, true, true, false, false, false, false, false, false, false, false, false, false, false, false] rfl rfl (by decide +kernel) (fun _ _ _ h => h) (Or.inl ⟨by rfl, ?_⟩) ?_ ?_
          rotate_left
          · intro w'
            go_simp
            with_reducible rfl
          rotate_left
          · first | (rw [put_list]; dsimp only [List.set_cons_zero, List.set_cons_succ]) | simp only [Act.put, List.setIfInBounds_toArray, List.set_cons_zero, List.set_cons_succ, i64_w, i32_w]
            rfl
          refine take_ (i := 27) (N := some 169) (v := ?_) (a' := ?_) #[true, true, true, true, true, true, true, true, true, true, true, true, true, true, true, true, true, true, true, true, true, true, true, true, true, true, true, true, false, false, false, false, false, false, false, false, false, false, false] rfl rfl (by decide +kernel) (fun _ _ _ h => h) (Or.inl ⟨by rfl, ?_⟩) hHeld ?_ ?_
          rotate_left
          · rintro w' ⟨s0, s1, s2, s3, s4⟩
            go_simp
            with_reducible rfl
          rotate_left
          · first | (rw [put_list]; dsimp only [List.set_cons_zero, List.set_cons_succ]) | simp only [Act.put, List.setIfInBounds_toArray, List.set_cons_zero, List.set_cons_succ, i64_w, i32_w]
            rfl
          refine pure_ (i := 28) (N := some 170) (v := ?_) (a' := ?_) #[true, true, true, true, true, true, true, true, true, true, true, true, true, true, true, true, true, true, true, true, true, true, true, true, true, true, true, true, true, false, false, false, false, false, false, false, false, false, false] rfl rfl (by decide +kernel) (fun _ _ _ h => h) (Or.inl ⟨by rfl, ?_⟩) ?_ ?_
          rotate_left
          · intro w'
            go_simp
            with_reducible rfl
          rotate_left
          · first | (rw [put_list]; dsimp only [List.set_cons_zero, List.set_cons_succ]) | simp only [Act.put, List.setIfInBounds_toArray, List.set_cons_zero, List.set_cons_succ, i64_w, i32_w]
            rfl
          refine pure_ (i := 29) (N := some 171) (v := ?_) (a' := ?_) #[true, true, true, true, true, true, true, true, true, true, true, true, true, true, true, true, true, true, true, true, true, true, true, true, true, true, true, true, true, true, false, false, false, false, false, false, false, false, false] rfl rfl (by decide +kernel) (fun _ _ _ h => h) (Or.inl ⟨by rfl, ?_⟩) ?_ ?_
          rotate_left
          · intro w'
            go_simp
            with_reducible rfl
          rotate_left
          · first | (rw [put_list]; dsimp only [List.set_cons_zero, List.set_cons_succ]) | simp only [Act.put, List.setIfInBounds_toArray, List.set_cons_zero, List.set_cons_succ, i64_w, i32_w]
            rfl
          refine pure_ (i := 30) (N := some 172) (v := ?_) (a' := ?_) #[true, true, true, true, true, true, true, true, true, true, true, true, true, true, true, true, true, true, true, true, true, true, true, true, true, true, true, true, true, true, true, false, false, false, false, false, false, false, false] rfl rfl (by decide +kernel) (fun _ _ _ h => h) (Or.inl ⟨by rfl, ?_⟩) ?_ ?_
          rotate_left
          · intro w'
            go_simp
            with_reducible rfl
          rotate_left
          · first | (rw [put_list]; dsimp only [List.set_cons_zero, List.set_cons_succ]) | simp only [Act.put, List.setIfInBounds_toArray, List.set_cons_zero, List.set_cons_succ, i64_w, i32_w]
            rfl
          refine pure_ (i := 31) (N := some 173) (v := ?_) (a' := ?_) #[true, true, true, true, true, true, true, true, true, true, true, true, true, true, true, true, true, true, true, true, true, true, true, true, true, true, true, true, true, true, true, true, false, false, false, false, false, false, false] rfl rfl (by decide +kernel) (fun _ _ _ h => h) (Or.inl ⟨by rfl, ?_⟩) ?_ ?_
          rotate_left
          · intro w'
            go_simp
            with_reducible rfl
          rotate_left
          · first | (rw [put_list]; dsimp only [List.set_cons_zero, List.set_cons_succ]) | simp only [Act.put, List.setIfInBounds_toArray, List.set_cons_zero, List.set_cons_succ, i64_w, i32_w]
            rfl
          refine take_ (i := 32) (N := some 174) (v := ?_) (a' := ?_) #[true, true, true, true, true, true, true, true, true, true, true, true, true, true, true, true, true, true, true, true, true, true, true, true, true, true, true, true, true, true, true, true, true, false, false, false, false, false, false] rfl rfl (by decide +kernel) (fun _ _ _ h => h) (Or.inl ⟨by rfl, ?_⟩) hHeld ?_ ?_
          rotate_left
          · rintro w' ⟨s0, s1, s2, s3, s4⟩
            go_simp
            with_reducible rfl
          rotate_left
          · first | (rw [put_list]; dsimp only [List.set_cons_zero, List.set_cons_succ]) | simp only [Act.put, List.setIfInBounds_toArray, List.set_cons_zero, List.set_cons_succ, i64_w, i32_w]
            rfl
          refine pure_ (i := 33) (N := some 175) (v := ?_) (a' := ?_) #[true, true, true, true, true, true, true, true, true, true, true, true, true, true, true, true, true, true, true, true, true, true, true, true, true, true, true, true, true, true, true, true, true, true, false, false, false, false, false] rfl rfl (by decide +kernel) (fun _ _ _ h => h) (Or.inl ⟨by rfl, ?_⟩) ?_ ?_
          rotate_left
          · intro w'
            go_simp
            with_reducible rfl
          rotate_left
          · first | (rw [put_list]; dsimp only [List.set_cons_zero, List.set_cons_succ]) | simp only [Act.put, List.setIfInBounds_toArray, List.set_cons_zero, List.set_cons_succ, i64_w, i32_w]
            rfl
          refine pure_ (i := 34) (N := some 176) (v := ?_) (a' := ?_) #[true, true, true, true, true, true, true, true, true, true, true, true, true, true, true, true, true, true, true, true, true, true, true, true, true, true, true, true, true, true, true, true, true, true, true, false, false, false, false] rfl rfl (by decide +kernel) (fun _ _ _ h => h) (Or.inl ⟨by rfl, ?_⟩) ?_ ?_
          rotate_left
          · intro w'
            go_simp
            with_reducible rfl
          rotate_left
          · first | (rw [put_list]; dsimp only [List.set_cons_zero, List.set_cons_succ]) | simp only [Act.put, List.setIfInBounds_toArray, List.set_cons_zero, List.set_cons_succ, i64_w, i32_w]
            rfl
          refine pure_ (i := 35) (N := some 177) (v := ?_) (a' := ?_) #[true, true, true, true, true, true, true, true, true, true, true, true, true, true, true, true, true, true, true, true, true, true, true, true, true, true, true, true, true, true, true, true, true, true, true, true, false, false, false] rfl rfl (by decide +kernel) (fun _ _ _ h => h) (Or.inl ⟨by rfl, ?_⟩) ?_ ?_
          rotate_left
          · intro w'
            go_simp
            with_reducible rfl
          rotate_left
          · first | (rw [put_list]; dsimp only [List.set_cons_zero, List.set_cons_succ]) | simp only [Act.put, List.setIfInBounds_toArray, List.set_cons_zero, List.set_cons_succ, i64_w, i32_w]
            rfl
          refine last_ (i := 36) (N := some 178) #[true, true, true, true, true, true, true, true, true, true, true, true, true, true, true, true, true, true, true, true, true, true, true, true, true, true, true, true, true, true, true, true, true, true, true, true, true, false, false] rfl rfl (by decide +kernel) (by decide) (fun K hK => ?_)
          refine goes_ Try.func15 (by kernel_rfl) rfl #[] (by rfl) rfl rfl (by simp only [List.map_toArray, List.map_cons, List.map_nil]) ?_
          with_reducible refine (wakes_ _).mono ?_
          rintro e w12 ⟨rfl, hb12⟩
          refine ⟨_, rfl, ?_⟩
          have HB12 := Aside0.mk hb12
          clear hb12
          refine hK.out _ _ ?_
          clear hK K
          refine norm_ (a' := ?_) ?_ ?_
          rotate_left
          · show Act.put _ (some 178) _ = _
            first | (rw [put_list]; dsimp only [List.set_cons_zero, List.set_cons_succ]) | simp only [Act.put, List.setIfInBounds_toArray, List.set_cons_zero, List.set_cons_succ, i64_w, i32_w]
            rfl
          refine pure_ (i := 37) (N := some 179) (v := ?_) (a' := ?_) #[true, true, true, true, true, true, true, true, true, true, true, true, true, true, true, true, true, true, true, true, true, true, true, true, true, true, true, true, true, true, true, true, true, true, true, true, true, true, false] rfl rfl (by decide +kernel) (fun _ _ _ h => h) (Or.inl ⟨by rfl, ?_⟩) ?_ ?_
          rotate_left
          · intro w'
            go_simp
            with_reducible rfl
          rotate_left
          · first | (rw [put_list]; dsimp only [List.set_cons_zero, List.set_cons_succ]) | simp only [Act.put, List.setIfInBounds_toArray, List.set_cons_zero, List.set_cons_succ, i64_w, i32_w]
            rfl
          refine pure_ (i := 38) (N := some 2) (v := ?_) (a' := ?_) #[true, true, true, true, true, true, true, true, true, true, true, true, true, true, true, true, true, true, true, true, true, true, true, true, true, true, true, true, true, true, true, true, true, true, true, true, true, true, true] rfl rfl (by decide +kernel) (fun _ _ _ h => h) (Or.inl ⟨by rfl, ?_⟩) ?_ ?_
          rotate_left
          · intro w'
            go_simp
            with_reducible rfl
          rotate_left
          · first | (rw [put_list]; dsimp only [List.set_cons_zero, List.set_cons_succ]) | simp only [Act.put, List.setIfInBounds_toArray, List.set_cons_zero, List.set_cons_succ, i64_w, i32_w]
            rfl
          refine done_ (by kernel_rfl) ?_

          clear hHeld q1 p0 m1 v1 v2 HEQ
          go_wp2
          go_ret
          exact ⟨rfl, below_tr (belowD (below_alloc (belowD HBW.out _) _) _) HB12.out⟩
        · intro _ _ _ _
          go_wp2_with (go_at_call 14; with_reducible refine (HDV.out _ HS9.out).mono ?_; rintro e w10 ⟨rfl, hb10⟩; have HB10 := Aside0.mk hb10; clear hb10)
          obtain ⟨w11, hw11⟩ : ∃ w11, w11 = w10.alloc (.cells #[.int .i64 X.addr, .bool X.on, .int .i64 X.per, .int .i64 (X.q.length : Int), .int .i64 X.lost, .int .i64 (X.next : Int)] 48) := ⟨_, rfl⟩
          rw [← hw11]
          have hb11 : Below w10.heap.size w10 w11 := hw11 ▸ below_alloc (Below.refl _ _) _
          have hx11 : w11.heap[w10.heap.size]? = some (.cells #[.int .i64 X.addr, .bool X.on, .int .i64 X.per, .int .i64 (X.q.length : Int), .int .i64 X.lost, .int .i64 (X.next : Int)] 48 (0, 0)) := by rw [hw11]; exact blk_new w10 _
          have hb911 := below_tr HB10.out hb11
          have hb811 := below_tr HB89.out hb911
          have hb311 := below_tr HB9.out hb911
          obtain ⟨z11, hz11⟩ : ∃ z11, z11 = w10.heap.size := ⟨_, rfl⟩
          rw [← hz11] at hx11 ⊢
          have q1 : w11.cell? ⟨z9, 1, none⟩ = some (.slice A8 4 c8) := (blk_cell ((hb911.block z9 (Array.getElem?_eq_some_iff.1 HX9.out).1).trans HX9.out) 1).trans rfl
          have v1 : w11.cell? ⟨z11, 1, none⟩ = some (.bool false) := by rw [← HXP.out.1]; exact (blk_cell hx11 1).trans rfl
          have v2 : w11.cell? ⟨z11, 2, none⟩ = some (.int .i64 1) := by rw [← HXP.out.2]; exact (blk_cell hx11 2).trans rfl
          obtain ⟨hbw, p0, p2, m0, m1⟩ := HBX.out w11 hb311
          have cf : IntKind.u8.wrap m.f1 = m.f1 := by have := HMO.out; rw [IntKind.wrap_u8]; have h1 := this.2.2.1; have h2 := this.2.2.2.1; omega
          have HB11 := Aside0.mk hb811
          have HBW := Aside0.mk hbw
          have HEQ := Aside0.mk (show ∀ (W : World) (b : Nat), Below w8.heap.size w8 W → b = W.heap.size → Calls Try.prog 13 #[.slice A8 4 c8, .slice (some ⟨b, 0, none⟩) 4 4] (W.alloc (.cells #[.int .u8 m.f1, .int .u8 0, .int .u8 1, .int .u8 0] 5)) fun e w' => e = .returned (.bool true) ∧ Drawn0 (W.alloc (.cells #[.int .u8 m.f1, .int .u8 0, .int .u8 1, .int .u8 0] 5)) w' from fun W b hW hb => by
            have hC := ans_C (W := W.alloc (.cells #[.int .u8 m.f1, .int .u8 0, .int .u8 1, .int .u8 0] 5)) (A := A8) (c := c8) (bs := [m.f1, 0, 1, 0]) HA8.out (below_alloc hW _) (by simp)
            exact eqB_ _ [m.f1, 0, 1, 0] 4 4 rfl rfl A8 _ c8 4 hC.2 hC.1 (lit4_C W b hb _ _ _ _) (Nat.le_refl _) (by simp))
          refine Cu.meet (by assumption) ?_ (by kernel_rfl) (by kernel_rfl)
          try dsimp only [Cu.pick, Cu.rep, Cu.nth]
          exact ⟨z9, z11, A8, c8, rfl, rfl, rfl, rfl, rfl, ⟨q1, p0, m1, v1, v2⟩, ⟨fun k b hb => HEQ.out (w11.drewN k) b (belowD HB11.out k) hb⟩, HBW⟩
      intro _ _ _ _
      go_wp2_with fail
      refine Cu.wp_loop (Cu.rep 1 Cu.t (Cu.rep 5 Cu.f (Cu.rep 115 Cu.t (Cu.rep 59 Cu.f [])))) 116 (fun kq us_ w' => ∃ i : Nat, (Cu.nth us_ 1) = .int .i64 (i : Int) ∧ Aside0 (kq + i = 12) ∧ Aside0 (∃ E : Bd, BusS w' w3.heap.size hi r [E] [] ((2 * i : Nat) : Int) ∧ E.x.addr = m.f0 ∧ E.x.id = m.f1 ∧ E.x.q = []) ∧ Aside0 (Below w3.heap.size w3 w')) 12 ?_ (by kernel_rfl) (by kernel_rfl) ?_
      · try dsimp only [Cu.pick, Cu.rep, Cu.nth]
        exact ⟨0, rfl, ⟨rfl⟩, HS5, HB5⟩
      · clear HS5 HB5
        intro gk wr u0 u6 u7 u8 u9 u10 u11 u12 u13 u14 u15 u16 u17 u18 u19 u20 u21 u22 u23 u24 u25 u26 u27 u28 u29 u30 u31 u32 u33 u34 u35 u36 u37 u38 u39 u40 u41 u42 u43 u44 u45 u46 u47 u48 u49 u50 u51 u52 u53 u54 u55 u56 u57 u58 u59 u60 u61 u62 u63 u64 u65 u66 u67 u68 u69 u70 u71 u72 u73 u74 u75 u76 u77 u78 u79 u80 u81 u82 u83 u84 u85 u86 u87 u88 u89 u90 u91 u92 u93 u94 u95 u96 u97 u98 u99 u100 u101 u102 u103 u104 u105 u106 u107 u108 u109 u110 u111 u112 u113 u114 u115 u116 u117 u118 u119 u120
        try dsimp only [Cu.over, Cu.rep, Cu.nth]
        intro hrel _ _ _ _
        obtain ⟨i, rfl, HK, HE, HB⟩ := hrel
        obtain ⟨hbw, p0, p2, m0, m1⟩ := HBX.out wr HB.out
        by_cases hi1 : i < nL ∧ i < 12
        · have d1 : decide ((i : Int) < (nL : Int)) = true := decide_eq_true (by omega)
          have d2 : decide ((i : Int) < 12) = true := decide_eq_true (by omega)
          have hii : (i : Int) < (nL : Int) := by omega
          obtain ⟨ad, dd, mm, rfl, l0, l5⟩ := HL.out wr hbw i hi1.1
          obtain ⟨nn, hnn, hwn⟩ := within mm 256 256 rfl (by decide) (by decide)
          obtain ⟨on, hon, hwo⟩ := within dd 2 2 rfl (by decide) (by decide)
          have HWN := Aside0.mk hwn
          have HWO := Aside0.mk hwo
          have cn : IntKind.u8.wrap (nn : Int) = (nn : Int) := by rw [IntKind.wrap_u8]; omega
          have co : IntKind.u8.wrap (on : Int) = (on : Int) := by rw [IntKind.wrap_u8]; omega
          obtain ⟨E, hE, hEa, hEi, hEq⟩ := HE.out
          obtain ⟨X, hX⟩ : ∃ X, E.x.doesD 1 [(on : Int), (nn : Int)] 0 = X := ⟨_, rfl⟩
          have hmo := HMO.out
          have HW2 := Aside0.mk (fun W b (hbb : b = W.heap.size) (h : BusS W w3.heap.size hi r [E] [] ((2 * i : Nat) : Int)) => doW2_ W _ hi r E _ h (by omega) (by omega) m.f0 1 hEa (on : Int) (nn : Int) (by omega) (by omega) (by omega) (by omega) ⟨hmo.1, hmo.2.1, by decide, by decide, by simp, fun _ => rfl, by simp, by decide⟩ X hX b hbb)
          have HEE := Aside0.mk hE
          have HXX := Aside0.mk (And.intro hX (And.intro hEa (And.intro hEi hEq)))
          clear hwn hwo hE hX hEa hEi hEq hmo HE
          go_upto_region 13 with (first | (go_at_call 11; with_reducible refine (HWN.out _).mono ?_; rintro e w' ⟨rfl, k1, rfl⟩) | (go_at_call 11; with_reducible refine (HWO.out _).mono ?_; rintro e w' ⟨rfl, k2, rfl⟩) | (go_at_call 12; with_reducible refine (HW2.out _ _ (drew_size _ _) (HEE.out.drewN (k1 + k2))).mono ?_; rintro e w6 ⟨A6, c6, rfl, HS6, HF6⟩))
          obtain ⟨w7, hw7⟩ : ∃ w7, w7 = w6.alloc (.cells #[.int .i64 1, .slice A6 0 c6] 43) := ⟨_, rfl⟩
          rw [← hw7]
          have hb7 : Below w6.heap.size w6 w7 := hw7 ▸ below_alloc (Below.refl _ _) _
          have hf6 : Below w3.heap.size w3 w6 := HF6.out.belowB (belowD HB.out (k1 + k2)) (fun k hk => hk.1) HB.out.size
          have HB7 := Aside0.mk (below_tr hf6 hb7)
          have HS7 := Aside0.mk (HS6.out.below hb7)
          have hq := regs_read E.x X (m.f1) on nn hon hnn HXX.out.1 HXX.out.2.2.1 HXX.out.2.2.2 HMO.out.2.2.1 HMO.out.2.2.2.1
          have HR2 := Aside0.mk (fun W (h : BusS W w3.heap.size hi r [{ E with x := X }] [] (((2 * i : Nat) : Int) + 1)) => doRd_ W _ hi r { E with x := X } _ h (by omega) (by omega) m.f0 0 (hq.1.trans HXX.out.2.1) 4 4 rfl (goodRd HMO.out.1 HMO.out.2.1 (by decide) (by decide) (by decide) (by decide)) [m.f1, (on : Int), (nn : Int), 0] hq.2.2.2 4 rfl X (doesD_rd _ _ _ (by decide)))
          have HXQ := Aside0.mk hq
          clear hw7 hb7 hf6 hq HS6 HF6 HW2 HEE HWN HWO l0 l5 p0 p2 m0 m1 HB hbw
          go_upto_region 14 with (go_at_call 12; with_reducible refine (HR2.out _ HS7.out).mono ?_; rintro e w8 ⟨A8, c8, rfl, HA8, HS8, HF8⟩)
          obtain ⟨w9, hw9⟩ : ∃ w9, w9 = w8.alloc (.cells #[.int .i64 1, .slice A8 4 c8] 43) := ⟨_, rfl⟩
          rw [← hw9]
          have hb9 : Below w8.heap.size w8 w9 := hw9 ▸ below_alloc (Below.refl _ _) _
          have hx9 : w9.heap[w8.heap.size]? = some (.cells #[.int .i64 1, .slice A8 4 c8] 43 (0, 0)) := by rw [hw9]; exact blk_new w8 _
          have hf8 : Below w3.heap.size w3 w8 := HF8.out.belowB HB7.out (fun k hk => hk.1) HB7.out.size
          have hB9 := below_tr hf8 hb9
          have HB9 := Aside0.mk hB9
          have HB89 := Aside0.mk hb9
          have HS9 := Aside0.mk (HS8.out.below hb9)
          obtain ⟨z9, hz9⟩ : ∃ z9, z9 = w8.heap.size := ⟨_, rfl⟩
          rw [← hz9] at hx9 ⊢
          have q1 : w9.cell? ⟨z9, 1, none⟩ = some (.slice A8 4 c8) := (blk_cell hx9 1).trans rfl
          obtain ⟨hbw, p0, p2, m0, m1⟩ := HBX.out w9 hB9
          have cf : IntKind.u8.wrap m.f1 = m.f1 := by have := HMO.out; rw [IntKind.wrap_u8]; have h1 := this.2.2.1; have h2 := this.2.2.2.1; omega
          have HEQ := Aside0.mk (show ∀ (W : World) (b : Nat), Below w8.heap.size w8 W → b = W.heap.size → Calls Try.prog 13 #[.slice A8 4 c8, .slice (some ⟨b, 0, none⟩) 4 4] (W.alloc (.cells #[.int .u8 m.f1, .int .u8 (on : Int), .int .u8 (nn : Int), .int .u8 0] 5)) fun e w' => e = .returned (.bool true) ∧ Drawn0 (W.alloc (.cells #[.int .u8 m.f1, .int .u8 (on : Int), .int .u8 (nn : Int), .int .u8 0] 5)) w' from fun W b hW hb => by
            have hC := ans_C (W := W.alloc (.cells #[.int .u8 m.f1, .int .u8 (on : Int), .int .u8 (nn : Int), .int .u8 0] 5)) (A := A8) (c := c8) (bs := [m.f1, (on : Int), (nn : Int), 0]) HA8.out (below_alloc hW _) (by simp)
            exact eqB_ _ [m.f1, (on : Int), (nn : Int), 0] 4 4 rfl rfl A8 _ c8 4 hC.2 hC.1 (lit4_C W b hb _ _ _ _) (Nat.le_refl _) (by simp))
          clear hw9 hb9 hx9 hf8 hB9 hz9 HF8 HS8 HA8 HB7 HS7 HR2
          go_upto_region 14 with fail
          refine start_ (n := 23) (S := fun w' => w'.cell? ⟨z9, 1, none⟩ = some (.slice A8 4 c8) ∧ w'.cell? ⟨y, 0, none⟩ = some (.slice (some a0) N c0) ∧ w'.cell? ⟨a0.block, a0.off + 1, none⟩ = some (.int .i64 m.f1)) (ds := []) #[false, false, false, false, false, false, false, false, false, false, false, false, false, false, false, false, false, false, false, false, false, false, false] (by kernel_rfl) rfl rfl ⟨q1, p0, m1⟩ (fun hHeld => ?_)
          refine pure_ (i := 0) (N := some 98) (v := ?_) (a' := ?_) #[true, false, false, false, false, false, false, false, false, false, false, false, false, false, false, false, false, false, false, false, false, false, false] rfl rfl (by decide +kernel) (fun _ _ _ h => h) (Or.inl ⟨by rfl, ?_⟩) ?_ ?_
          rotate_left
          · intro w'
            go_simp
            with_reducible rfl
          rotate_left
          · first | (rw [put_list]; dsimp only [List.set_cons_zero, List.set_cons_succ]) | simp only [Act.put, List.setIfInBounds_toArray, List.set_cons_zero, List.set_cons_succ, i64_w, i32_w]
            rfl
          refine one_ (i := 1) (N := some 99) #[true, true, false, false, false, false, false, false, false, false, false, false, false, false, false, false, false, false, false, false, false, false, false] rfl rfl (by decide +kernel) (by decide) (fun K hK => ?_)
          refine goes_ Try.func10 (by kernel_rfl) rfl #[.int .i64 0] (by rfl) rfl rfl (by simp only [List.map_toArray, List.map_cons, List.map_nil]; rfl) ?_
          with_reducible refine (num_ _ _).mono ?_
          rintro e wa ⟨rfl, n1, rfl⟩
          refine ⟨_, rfl, ?_⟩
          refine hK.out _ _ ⟨hHeld.1, hHeld.2.1, hHeld.2.2⟩ (fun hHeld => ?_)
          clear hK K
          refine norm_ (a' := ?_) ?_ ?_
          rotate_left
          · show Act.put _ (some 99) _ = _
            first | (rw [put_list]; dsimp only [List.set_cons_zero, List.set_cons_succ]) | simp only [Act.put, List.setIfInBounds_toArray, List.set_cons_zero, List.set_cons_succ, i64_w, i32_w]
            rfl
          refine pure_ (i := 2) (N := some 100) (v := ?_) (a' := ?_) #[true, true, true, false, false, false, false, false, false, false, false, false, false, false, false, false, false, false, false, false, false, false, false] rfl rfl (by decide +kernel) (fun _ _ _ h => h) (Or.inl ⟨by rfl, ?_⟩) ?_ ?_
          rotate_left
          · intro w'
            go_simp
            with_reducible rfl
          rotate_left
          · first | (rw [put_list]; dsimp only [List.set_cons_zero, List.set_cons_succ]) | simp only [Act.put, List.setIfInBounds_toArray, List.set_cons_zero, List.set_cons_succ, i64_w, i32_w]
            rfl
          refine pure_ (i := 3) (N := some 101) (v := ?_) (a' := ?_) #[true, true, true, true, false, false, false, false, false, false, false, false, false, false, false, false, false, false, false, false, false, false, false] rfl rfl (by decide +kernel) (fun _ _ _ h => h) (Or.inl ⟨by rfl, ?_⟩) ?_ ?_
          rotate_left
          · intro w'
            go_simp
            with_reducible rfl
          rotate_left
          · first | (rw [put_list]; dsimp only [List.set_cons_zero, List.set_cons_succ]) | simp only [Act.put, List.setIfInBounds_toArray, List.set_cons_zero, List.set_cons_succ, i64_w, i32_w]
            rfl
          refine pure_ (i := 4) (N := some 102) (v := ?_) (a' := ?_) #[true, true, true, true, true, false, false, false, false, false, false, false, false, false, false, false, false, false, false, false, false, false, false] rfl rfl (by decide +kernel) (fun _ _ _ h => h) (Or.inl ⟨by rfl, ?_⟩) ?_ ?_
          rotate_left
          · intro w'
            go_simp
            with_reducible rfl
          rotate_left
          · first | (rw [put_list]; dsimp only [List.set_cons_zero, List.set_cons_succ]) | simp only [Act.put, List.setIfInBounds_toArray, List.set_cons_zero, List.set_cons_succ, i64_w, i32_w]
            rfl
          refine one_ (i := 5) (N := some 103) #[true, true, true, true, true, true, false, false, false, false, false, false, false, false, false, false, false, false, false, false, false, false, false] rfl rfl (by decide +kernel) (by decide) (fun K hK => ?_)
          refine goes_ Try.func10 (by kernel_rfl) rfl #[.int .i64 0] (by rfl) rfl rfl (by simp only [List.map_toArray, List.map_cons, List.map_nil]; rfl) ?_
          with_reducible refine (num_ _ _).mono ?_
          rintro e wa ⟨rfl, n2, rfl⟩
          refine ⟨_, rfl, ?_⟩
          refine hK.out _ _ ⟨hHeld.1, hHeld.2.1, hHeld.2.2⟩ (fun hHeld => ?_)
          clear hK K
          refine norm_ (a' := ?_) ?_ ?_
          rotate_left
          · show Act.put _ (some 103) _ = _
            first | (rw [put_list]; dsimp only [List.set_cons_zero, List.set_cons_succ]) | simp only [Act.put, List.setIfInBounds_toArray, List.set_cons_zero, List.set_cons_succ, i64_w, i32_w]
            rfl
          refine pure_ (i := 6) (N := some 104) (v := ?_) (a' := ?_) #[true, true, true, true, true, true, true, false, false, false, false, false, false, false, false, false, false, false, false, false, false, false, false] rfl rfl (by decide +kernel) (fun _ _ _ h => h) (Or.inl ⟨by rfl, ?_⟩) ?_ ?_
          rotate_left
          · intro w'
            go_simp
            with_reducible rfl
          rotate_left
          · first | (rw [put_list]; dsimp only [List.set_cons_zero, List.set_cons_succ]) | simp only [Act.put, List.setIfInBounds_toArray, List.set_cons_zero, List.set_cons_succ, i64_w, i32_w]
            rfl
          refine pure_ (i := 7) (N := some 105) (v := ?_) (a' := ?_) #[true, true, true, true, true, true, true, true, false, false, false, false, false, false, false, false, false, false, false, false, false, false, false] rfl rfl (by decide +kernel) (fun _ _ _ h => h) (Or.inl ⟨by rfl, ?_⟩) ?_ ?_
          rotate_left
          · intro w'
            go_simp
            with_reducible rfl
          rotate_left
          · first | (rw [put_list]; dsimp only [List.set_cons_zero, List.set_cons_succ]) | simp only [Act.put, List.setIfInBounds_toArray, List.set_cons_zero, List.set_cons_succ, i64_w, i32_w]
            rfl
          refine pure_ (i := 8) (N := some 106) (v := ?_) (a' := ?_) #[true, true, true, true, true, true, true, true, true, false, false, false, false, false, false, false, false, false, false, false, false, false, false] rfl rfl (by decide +kernel) (fun _ _ _ h => h) (Or.inl ⟨by rfl, ?_⟩) ?_ ?_
          rotate_left
          · intro w'
            go_simp
            with_reducible rfl
          rotate_left
          · first | (rw [put_list]; dsimp only [List.set_cons_zero, List.set_cons_succ]) | simp only [Act.put, List.setIfInBounds_toArray, List.set_cons_zero, List.set_cons_succ, i64_w, i32_w]
            rfl
          refine pure_ (i := 9) (N := some 107) (v := ?_) (a' := ?_) #[true, true, true, true, true, true, true, true, true, true, false, false, false, false, false, false, false, false, false, false, false, false, false] rfl rfl (by decide +kernel) (fun _ _ _ h => h) (Or.inl ⟨by rfl, ?_⟩) ?_ ?_
          rotate_left
          · intro w'
            go_simp
            with_reducible rfl
          rotate_left
          · first | (rw [put_list]; dsimp only [List.set_cons_zero, List.set_cons_succ]) | simp only [Act.put, List.setIfInBounds_toArray, List.set_cons_zero, List.set_cons_succ, i64_w, i32_w]
            rfl
          refine pure_ (i := 11) (N := some 109) (v := ?_) (a' := ?_) #[true, true, true, true, true, true, true, true, true, true, false, true, false, false, false, false, false, false, false, false, false, false, false] rfl rfl (by decide +kernel) (fun _ _ _ h => h) (Or.inl ⟨by rfl, ?_⟩) ?_ ?_
          rotate_left
          · intro w'
            go_simp
            with_reducible rfl
          rotate_left
          · first | (rw [put_list]; dsimp only [List.set_cons_zero, List.set_cons_succ]) | simp only [Act.put, List.setIfInBounds_toArray, List.set_cons_zero, List.set_cons_succ, i64_w, i32_w]
            rfl
          refine pure_ (i := 17) (N := some 115) (v := ?_) (a' := ?_) #[true, true, true, true, true, true, true, true, true, true, false, true, false, false, false, false, false, true, false, false, false, false, false] rfl rfl (by decide +kernel) (fun _ _ _ h => h) (Or.inl ⟨by rfl, ?_⟩) ?_ ?_
          rotate_left
          · intro w'
            go_simp
            with_reducible rfl
          rotate_left
          · first | (rw [put_list]; dsimp only [List.set_cons_zero, List.set_cons_succ]) | simp only [Act.put, List.setIfInBounds_toArray, List.set_cons_zero, List.set_cons_succ, i64_w, i32_w]
            rfl
          refine pure_ (i := 18) (N := some 116) (v := ?_) (a' := ?_) #[true, true, true, true, true, true, true, true, true, true, false, true, false, false, false, false, false, true, true, false, false, false, false] rfl rfl (by decide +kernel) (fun _ _ _ h => h) (Or.inl ⟨by rfl, ?_⟩) ?_ ?_
          rotate_left
          · intro w'
            go_simp
            with_reducible rfl
          rotate_left
          · first | (rw [put_list]; dsimp only [List.set_cons_zero, List.set_cons_succ]) | simp only [Act.put, List.setIfInBounds_toArray, List.set_cons_zero, List.set_cons_succ, i64_w, i32_w]
            rfl
          refine take_ (i := 10) (N := some 108) (v := ?_) (a' := ?_) #[true, true, true, true, true, true, true, true, true, true, true, true, false, false, false, false, false, true, true, false, false, false, false] rfl rfl (by decide +kernel) (fun _ _ _ h => h) (Or.inl ⟨by rfl, ?_⟩) hHeld ?_ ?_
          rotate_left
          · rintro w' ⟨s0, s1, s2⟩
            go_simp
            with_reducible rfl
          rotate_left
          · first | (rw [put_list]; dsimp only [List.set_cons_zero, List.set_cons_succ]) | simp only [Act.put, List.setIfInBounds_toArray, List.set_cons_zero, List.set_cons_succ, i64_w, i32_w]
            rfl
          refine take_ (i := 12) (N := some 110) (v := ?_) (a' := ?_) #[true, true, true, true, true, true, true, true, true, true, true, true, true, false, false, false, false, true, true, false, false, false, false] rfl rfl (by decide +kernel) (fun _ _ _ h => h) (Or.inl ⟨by rfl, ?_⟩) hHeld ?_ ?_
          rotate_left
          · rintro w' ⟨s0, s1, s2⟩
            go_simp
            with_reducible rfl
          rotate_left
          · first | (rw [put_list]; dsimp only [List.set_cons_zero, List.set_cons_succ]) | simp only [Act.put, List.setIfInBounds_toArray, List.set_cons_zero, List.set_cons_succ, i64_w, i32_w]
            rfl
          refine pure_ (i := 13) (N := some 111) (v := ?_) (a' := ?_) #[true, true, true, true, true, true, true, true, true, true, true, true, true, true, false, false, false, true, true, false, false, false, false] rfl rfl (by decide +kernel) (fun _ _ _ h => h) (Or.inl ⟨by rfl, ?_⟩) ?_ ?_
          rotate_left
          · intro w'
            go_simp
            with_reducible rfl
          rotate_left
          · first | (rw [put_list]; dsimp only [List.set_cons_zero, List.set_cons_succ]) | simp only [Act.put, List.setIfInBounds_toArray, List.set_cons_zero, List.set_cons_succ, i64_w, i32_w]
            rfl
          refine pure_ (i := 14) (N := some 112) (v := ?_) (a' := ?_) #[true, true, true, true, true, true, true, true, true, true, true, true, true, true, true, false, false, true, true, false, false, false, false] rfl rfl (by decide +kernel) (fun _ _ _ h => h) (Or.inl ⟨by rfl, ?_⟩) ?_ ?_
          rotate_left
          · intro w'
            go_simp
            with_reducible rfl
          rotate_left
          · first | (rw [put_list]; dsimp only [List.set_cons_zero, List.set_cons_succ]) | simp only [Act.put, List.setIfInBounds_toArray, List.set_cons_zero, List.set_cons_succ, i64_w, i32_w]
            rfl
          refine take_ (i := 15) (N := some 113) (v := ?_) (a' := ?_) #[true, true, true, true, true, true, true, true, true, true, true, true, true, true, true, true, false, true, true, false, false, false, false] rfl rfl (by decide +kernel) (fun _ _ _ h => h) (Or.inl ⟨by rfl, ?_⟩) hHeld ?_ ?_
          rotate_left
          · rintro w' ⟨s0, s1, s2⟩
            go_simp
            with_reducible rfl
          rotate_left
          · first | (rw [put_list]; dsimp only [List.set_cons_zero, List.set_cons_succ]) | simp only [Act.put, List.setIfInBounds_toArray, List.set_cons_zero, List.set_cons_succ, i64_w, i32_w]
            rfl
          refine pure_ (i := 16) (N := some 114) (v := ?_) (a' := ?_) #[true, true, true, true, true, true, true, true, true, true, true, true, true, true, true, true, true, true, true, false, false, false, false] rfl rfl (by decide +kernel) (fun _ _ _ h => h) (Or.inl ⟨by rfl, ?_⟩) ?_ ?_
          rotate_left
          · intro w'
            go_simp
            with_reducible rfl
          rotate_left
          · first | (rw [put_list]; dsimp only [List.set_cons_zero, List.set_cons_succ]) | simp only [Act.put, List.setIfInBounds_toArray, List.set_cons_zero, List.set_cons_succ, i64_w, i32_w]
            rfl
          refine one_ (i := 19) (N := some 117) #[true, true, true, true, true, true, true, true, true, true, true, true, true, true, true, true, true, true, true, true, false, false, false] rfl rfl (by decide +kernel) (by decide) (fun K hK => ?_)
          refine value_ (w1 := ?_) (v := ?_) (by rfl) rfl ?_ ?_
          rotate_left 2
          · go_simp
            constructor
            · rfl
            · rfl
          refine hK.out _ _ ⟨(World.cell?_alloc_lt _ _ _ (World.block_lt_of_cell? _ _ hHeld.1)).trans hHeld.1, (World.cell?_alloc_lt _ _ _ (World.block_lt_of_cell? _ _ hHeld.2.1)).trans hHeld.2.1, (World.cell?_alloc_lt _ _ _ (World.block_lt_of_cell? _ _ hHeld.2.2)).trans hHeld.2.2⟩ (fun hHeld => ?_)
          clear hK K
          refine norm_ (a' := ?_) ?_ ?_
          rotate_left
          · show Act.put _ (some 117) _ = _
            first | (rw [put_list]; dsimp only [List.set_cons_zero, List.set_cons_succ]) | simp only [Act.put, List.setIfInBounds_toArray, List.set_cons_zero, List.set_cons_succ, i64_w, i32_w]
            rfl
          refine one_ (i := 20) (N := some 118) #[true, true, true, true, true, true, true, true, true, true, true, true, true, true, true, true, true, true, true, true, true, false, false] rfl rfl (by decide +kernel) (by decide) (fun K hK => ?_)
          refine goes_ Try.func13 (by kernel_rfl) rfl #[.slice A8 4 c8, .slice (some ⟨w9.heap.size, 0, none⟩) 4 4] (by rfl) rfl rfl (by simp only [List.map_toArray, List.map_cons, List.map_nil]; rfl) ?_
          with_reducible refine (HEQ.out (w9.drewN _) _ (belowD HB89.out _) (drew_size _ _)).mono ?_
          rintro e wa ⟨rfl, n3, rfl⟩
          refine ⟨_, rfl, ?_⟩
          refine hK.out _ _ ⟨hHeld.1, hHeld.2.1, hHeld.2.2⟩ (fun hHeld => ?_)
          clear hK K
          refine norm_ (a' := ?_) ?_ ?_
          rotate_left
          · show Act.put _ (some 118) _ = _
            first | (rw [put_list]; dsimp only [List.set_cons_zero, List.set_cons_succ]) | simp only [Act.put, List.setIfInBounds_toArray, List.set_cons_zero, List.set_cons_succ, i64_w, i32_w]
            rfl
          refine pure_ (i := 21) (N := some 119) (v := ?_) (a' := ?_) #[true, true, true, true, true, true, true, true, true, true, true, true, true, true, true, true, true, true, true, true, true, true, false] rfl rfl (by decide +kernel) (fun _ _ _ h => h) (Or.inl ⟨by rfl, ?_⟩) ?_ ?_
          rotate_left
          · intro w'
            go_simp
            with_reducible rfl
          rotate_left
          · first | (rw [put_list]; dsimp only [List.set_cons_zero, List.set_cons_succ]) | simp only [Act.put, List.setIfInBounds_toArray, List.set_cons_zero, List.set_cons_succ, i64_w, i32_w]
            rfl
          refine pure_ (i := 22) (N := some 120) (v := ?_) (a' := ?_) #[true, true, true, true, true, true, true, true, true, true, true, true, true, true, true, true, true, true, true, true, true, true, true] rfl rfl (by decide +kernel) (fun _ _ _ h => h) (Or.inl ⟨by rfl, ?_⟩) ?_ ?_
          rotate_left
          · intro w'
            go_simp
            with_reducible rfl
          rotate_left
          · first | (rw [put_list]; dsimp only [List.set_cons_zero, List.set_cons_succ]) | simp only [Act.put, List.setIfInBounds_toArray, List.set_cons_zero, List.set_cons_succ, i64_w, i32_w]
            rfl
          refine done_ (by kernel_rfl) ?_

          clear hHeld q1 p0 p2 m0 m1 hbw HEQ
          go_wp2
          have hk := HK.out
          refine Cu.handed (12 - (i + 1)) (by omega) (by assumption) ?_ (by kernel_rfl) (by kernel_rfl)
          try dsimp only [Cu.pick, Cu.rep, Cu.nth]
          have hbz : ∀ W, Below w9.heap.size w9 W → Below w3.heap.size w3 W := fun W hW => below_tr HB9.out hW
          refine ⟨i + 1, by rw [Int.natCast_add]; rfl, ⟨by omega⟩, ⟨{ E with x := X }, ?_, HXQ.out.1.trans HXX.out.2.1, HXQ.out.2.1, HXQ.out.2.2.1⟩, ⟨?_⟩⟩
          · have hs := HS9.out
            rw [show ((2 * i : Nat) : Int) + 1 + 1 = ((2 * (i + 1) : Nat) : Int) by omega] at hs
            exact hs.below (by first | exact belowD (below_alloc (belowD (Below.refl _ w9) _) _) _ | exact below_alloc (belowD (Below.refl _ w9) _) _)
          · exact hbz _ (by first | exact belowD (below_alloc (belowD (Below.refl _ w9) _) _) _ | exact below_alloc (belowD (Below.refl _ w9) _) _)
        · have hd : (decide ((i : Int) < (nL : Int)) = false ∧ ¬ i < nL ∧ ¬ (i : Int) < (nL : Int)) ∨ (decide ((i : Int) < (nL : Int)) = true ∧ decide ((i : Int) < 12) = false ∧ i < nL ∧ ¬ i < 12 ∧ ¬ (i : Int) < 12) := by
            by_cases h1 : i < nL
            · exact .inr ⟨decide_eq_true (by omega), decide_eq_false (by omega), h1, by omega, by omega⟩
            · exact .inl ⟨decide_eq_false (by omega), h1, by omega⟩
          have hii : ¬ ((i : Int) < (nL : Int) ∧ (i : Int) < 12) := by omega
          have hk := HK.out
          obtain ⟨E, hE, hEa, hEi, hEq⟩ := HE.out
          have HEE := Aside0.mk (And.intro hE (And.intro hEa (And.intro hEi hEq)))
          clear hE hEa hEi hEq HE hii hi1
          rcases hd with ⟨d1, d3, d4⟩ | ⟨d1, d2, d3, d4, d5⟩
          all_goals
            go_wp2
            refine Cu.meet (by assumption) ?_ (by kernel_rfl) (by kernel_rfl)
            try dsimp only [Cu.pick, Cu.rep, Cu.nth]
            exact ⟨i, E, ⟨by omega⟩, HEE, HB⟩
    · go_wp2
      go_ret
      exact ⟨rfl, below_tr HB1.out HB2.out⟩
end Go.Proofs.Ytpolofolibabiaa.Bs
