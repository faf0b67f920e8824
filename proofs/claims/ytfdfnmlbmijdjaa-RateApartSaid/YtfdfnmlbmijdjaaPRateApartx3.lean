import Derived.Test.YtfdfnmlbmijdjaaPRateApartx0
import Derived.Test.YtfdfnmlbmijdjaaPRateApartx1
import Derived.Test.YtfdfnmlbmijdjaaPRateApartx2
namespace Go.Proofs.Ytfdfnmlbmijdjaa.PRateApart
open Go.RowKit Go.Proofs.YtfdfnmlbmijdjaaW.PrintWords Go.Proofs.YtfdfnmlbmijdjaaW.PrintLast Go.Proofs.YtfdfnmlbmijdjaaW.PrintMore
attribute [local go_sem] max2_int min2_int max_two min_two max_three min_three max_four min_four   -- for this text's walks alone
set_option linter.unusedVariables false
set_option linter.unusedSimpArgs false

/-! ### gimballaw27_RateApart: function 3 -/
-- given
def Ap.Arr (w : World) (b t : Nat) (l : List Int) : Prop := w.heap[b]? = some (.cells (l.map (Value.int .i64)).toArray t (0, 0))
theorem Ap.Arr.get {w : World} {b t : Nat} {l : List Int} (h : Ap.Arr w b t l) (j : Nat) (hj : j < l.length) : w.cell? ⟨b, j, none⟩ = some (.int .i64 l[j]!) := by
  refine (blk_cell h j).trans ?_
  rw [List.getElem?_toArray, List.getElem?_map, List.getElem?_eq_getElem hj, getElem!_pos l j hj]
  rfl
theorem Ap.Arr.set {w : World} {b t : Nat} {l : List Int} (h : Ap.Arr w b t l) (j : Nat) (v : Int) : Ap.Arr (w.setCell ⟨b, j, none⟩ (.int .i64 v)) b t (l.set j v) := by
  unfold Ap.Arr at *
  simp [World.setCell, Array.getElem?_modify, h, List.map_set]
theorem Ap.Arr.frozen {w : World} {b t : Nat} {l : List Int} (h : Ap.Arr w b t l) (j : Nat) : w.frozen? ⟨b, j, none⟩ = false := by
  unfold Ap.Arr at h
  simp [World.frozen?, h]
theorem Ap.Arr.no77 {w : World} {b t : Nat} {l : List Int} (h : Ap.Arr w b t l) (ht : t ≠ 77 := by decide) : No77 w b := no77_of h ht
theorem Ap.Arr.drewN {w : World} {b t : Nat} {l : List Int} (h : Ap.Arr w b t l) (m : Nat) : Ap.Arr (w.drewN m) b t l := h
theorem Ap.Arr.keep {w w1 : World} {b t g : Nat} {l : List Int} (h : Ap.Arr w b t l) (hk : KeepBut w w1 g none) (hg : b ≠ g) (ht : t ≠ 77 := by decide) : Ap.Arr w1 b t l := KeepBut.blk hk h hg (by simp) (by intro cs r e; injection e with _ e _; exact ht e)
theorem Ap.Arr.far {w : World} {b t : Nat} {l : List Int} (h : Ap.Arr w b t l) {p : Addr} (hp : b ≠ p.block) (v : Value) : Ap.Arr (w.setCell p v) b t l := (Below.heap_setCell _ _ _ _ hp).trans h
theorem Ap.within (x : Int) (n : Nat) (h0 : 0 < n) (hn : n < 100000) : ∃ m : Nat, m < n ∧ ∀ W, Calls Try.prog 7 #[.int .i64 x, .int .i64 (n : Int)] W fun e w' => e = .returned (.int .i64 (m : Int)) ∧ Drawn0 W w' := by
  have hw : IntKind.u64.wrap (n : Int) = n := by rw [IntKind.wrap_u64]; omega
  have h1 : 0 ≤ IntKind.u64.wrap x := by rw [IntKind.wrap_u64]; omega
  have h2 : Int.tmod (IntKind.u64.wrap x) n = (IntKind.u64.wrap x) % n := Int.tmod_eq_emod_of_nonneg h1
  have h3 := Int.emod_nonneg (IntKind.u64.wrap x) (show (n : Int) ≠ 0 by omega)
  have h4 := Int.emod_lt_of_pos (IntKind.u64.wrap x) (show (0 : Int) < n by omega)
  refine ⟨((IntKind.u64.wrap x) % n).toNat, by omega, fun W => gimballaw0_Within.calls x n _ W ?_⟩
  unfold gimballaw0_Within.f
  rw [hw, if_neg (by omega), h2]
  congr 1
  unfold wrap64
  omega
theorem Ap.in_f (l : List Int) (x : Int) (hl : l.length < 1000000) : ∃ k, gimbalref0_In.f k l x = some (decide (x ∈ l)) := by
  have h : ∀ d j : Nat, j + d = l.length → gimbalref0_In.l0 (d + 1) l x (j : Int) = some (decide (x ∈ l.drop j)) := by
    intro d
    induction d with
    | zero =>
      intro j hj
      simp only [gimbalref0_In.l0]
      rw [if_neg (by omega), List.drop_of_length_le (by omega)]
      simp
    | succ d ih =>
      intro j hj
      rw [gimbalref0_In.l0]
      rw [if_pos (by omega), if_pos (by omega), List.drop_eq_getElem_cons (show j < l.length by omega)]
      have hr : rd l (j : Int) = l[j]'(by omega) := by
        unfold rd
        rw [Int.toNat_natCast, List.getD_eq_getElem?_getD, List.getElem?_eq_getElem (show j < l.length by omega)]
        rfl
      rw [hr]
      split
      · rename_i h
        simp [h]
      · rename_i h
        rw [show wrap64 ((j : Int) + 1) = ((j + 1 : Nat) : Int) by unfold wrap64; omega, ih (j + 1) (by omega)]
        congr 1
        apply decide_eq_decide.2
        rw [List.mem_cons]
        constructor
        · exact .inr
        · rintro (e | e)
          · exact absurd e.symm h
          · exact e
  exact ⟨l.length + 1, by unfold gimbalref0_In.f; have := h l.length 0 (by omega); simpa using this⟩
theorem Ap.rising_f (l : List Int) (hs : l.Pairwise (· < ·)) (hr : ∀ c ∈ l, 0 ≤ c ∧ c < 8) (hl : l.length < 1000000) : ∃ k, gimbalref0_Rising.f k l 0 8 = some true := by
  have h : ∀ d j : Nat, j + d = l.length → gimbalref0_Rising.l0 (d + 1) l 0 8 (j : Int) = some true := by
    intro d
    induction d with
    | zero =>
      intro j hj
      simp only [gimbalref0_Rising.l0]
      rw [if_neg (by omega)]
    | succ d ih =>
      intro j hj
      have hj2 : j < l.length := by omega
      rw [gimbalref0_Rising.l0]
      have hrd : ∀ i : Nat, (hi : i < l.length) → rd l (i : Int) = l[i] := fun i hi => by
        unfold rd
        rw [Int.toNat_natCast, List.getD_eq_getElem?_getD, List.getElem?_eq_getElem hi]
        rfl
      have hb := hr l[j] (List.getElem_mem hj2)
      rw [if_pos (by omega), if_pos (by omega), hrd j hj2, if_neg (by omega), if_neg (by omega), show wrap64 ((j : Int) + 1) = ((j + 1 : Nat) : Int) by unfold wrap64; omega, ih (j + 1) (by omega)]
      split
      · rename_i h0
        rw [show wrap64 ((j : Int) - 1) = ((j - 1 : Nat) : Int) by unfold wrap64; omega, if_pos (by omega), if_pos (by omega), hrd (j - 1) (by omega), if_neg]
        have := (List.pairwise_iff_getElem.1 hs) (j - 1) j (by omega) hj2 (by omega)
        omega
      · rfl
  exact ⟨l.length + 1, by unfold gimbalref0_Rising.f; have := h l.length 0 (by omega); simpa using this⟩
theorem Ap.wakes_f : ∃ k, gimballaw27_wakes.f k = some true := by
  refine ⟨3, ?_⟩
  simp [gimballaw27_wakes.f, rate_New.f, rate_Table_Add.f, Rt.maySub, Rt.Tb.add, gimballaw27_num.f, rate_Table_Take.f, Rt.senOk, Rt.timeOk, Rt.takeL, Rt.hit, gimbalref0_EqNumbers.f, gimbalref0_EqNumbers.l0, rd, wrap64]
def gimballaw27_RateApart.f (_k : Nat) (_l0 : List (S31)) : Option (Bool) := some true
theorem gimballaw27_RateApart.mono : ∀ a0 k, LeO (gimballaw27_RateApart.f k a0) (gimballaw27_RateApart.f (k + 1) a0) := fun _ _ => LeO.refl _
set_option maxHeartbeats 16000000 in
set_option maxRecDepth 100000 in
theorem gimballaw27_RateApart.calls (k : Nat) (A0 : Option Addr) (c0 : Nat) (l0 : List (S31)) (r : Bool) (w : World) (hr0 : Kd.C k31 w A0 l0.length l0) (hc0 : l0.length ≤ c0) (h : gimballaw27_RateApart.f k l0 = some r) (hrt_ : Aside0 (r = true)) :
    Calls Try.prog 3 #[.slice A0 l0.length c0] w fun e w' => e = .returned (.bool r) ∧ Below w.heap.size w w' := by
  obtain rfl := hrt_.out
  clear h hrt_
  have HR := Aside0.mk hr0
  have HC := Aside0.mk hc0
  clear hr0 hc0
  obtain ⟨n, hn⟩ : ∃ n, n = l0.length := ⟨_, rfl⟩
  have HN := Aside0.mk hn
  rw [← hn]
  clear hn
  have mixed : Try.prog.follows Departure.mixedOrders = true := by kernel_rfl
  go_enter Try.func3, Try.ntmps3
  go_wp2_with (go_at_call 6; refine (rate_New.calls [] w _ (Below.refl _ _) rfl).mono ?_; rintro e w2 ⟨g, rfl, hi, hb, hb2⟩; have HI := Aside0.mk hi; have HB := Aside0.mk hb; clear hi hb hb2)
  refine Cu.wp_loop (Cu.rep 6 Cu.f (Cu.rep 8 Cu.t (Cu.rep 3 Cu.f (Cu.rep 121 Cu.t (Cu.rep 1 Cu.f []))))) 129 (fun kq us_ w' => ∃ (E : Rt.Tb) (P L : List Int) (now : Int) (i : Nat), (Cu.nth us_ 0) = .int .i64 now ∧ (Cu.nth us_ 1) = .int .i64 (i : Int) ∧ Aside0 (kq + i = 60) ∧ Aside0 (Rt.Inv E P L now) ∧ Aside0 (E.length ≤ i) ∧ Aside0 (now ≤ 400 * (i : Int)) ∧ Aside0 (IsS65 w w' g E) ∧ Aside0 (Ap.Arr w' w2.heap.size 25 P) ∧ Aside0 (Ap.Arr w' (w2.heap.size + 1) 26 L) ∧ Aside0 (Below w.heap.size w w')) 60 ?_ (by kernel_rfl) (by kernel_rfl) ?_
  · try dsimp only [Cu.pick, Cu.rep, Cu.nth]
    refine ⟨[], List.replicate 8 0, List.replicate 8 0, 0, 0, rfl, rfl, ⟨rfl⟩, ⟨Rt.Inv.nil⟩, ⟨Nat.le_refl _⟩, ⟨by omega⟩, ⟨(HI.out.alloc _).alloc _⟩, ⟨?_⟩, ⟨?_⟩, ⟨below_alloc (below_alloc HB.out _) _⟩⟩
    · exact blk_alloc (blk_new w2 _) _
    · have := blk_new (w2.alloc (.cells #[.int .i64 0, .int .i64 0, .int .i64 0, .int .i64 0, .int .i64 0, .int .i64 0, .int .i64 0, .int .i64 0] 25)) (.cells #[.int .i64 0, .int .i64 0, .int .i64 0, .int .i64 0, .int .i64 0, .int .i64 0, .int .i64 0, .int .i64 0] 26)
      rw [World.size_alloc] at this
      exact this
  have hgb : g < w2.heap.size := HI.out.lt
  have hwb : w.heap.size ≤ w2.heap.size := HB.out.size
  obtain ⟨b, hb⟩ : ∃ b, b = w2.heap.size := ⟨_, rfl⟩
  rw [← hb] at hgb hwb ⊢
  have HG := Aside0.mk hgb
  have HW := Aside0.mk hwb
  clear HI HB hb hgb hwb
  intro gk wr u6 u7 u8 u9 u10 u11 u12 u13 u17 u18 u19 u20 u21 u22 u23 u24 u25 u26 u27 u28 u29 u30 u31 u32 u33 u34 u35 u36 u37 u38 u39 u40 u41 u42 u43 u44 u45 u46 u47 u48 u49 u50 u51 u52 u53 u54 u55 u56 u57 u58 u59 u60 u61 u62 u63 u64 u65 u66 u67 u68 u69 u70 u71 u72 u73 u74 u75 u76 u77 u78 u79 u80 u81 u82 u83 u84 u85 u86 u87 u88 u89 u90 u91 u92 u93 u94 u95 u96 u97 u98 u99 u100 u101 u102 u103 u104 u105 u106 u107 u108 u109 u110 u111 u112 u113 u114 u115 u116 u117 u118 u119 u120 u121 u122 u123 u124 u125 u126 u127 u128 u129 u130 u131 u132 u133 u134 u135 u136 u137
  try dsimp only [Cu.over, Cu.rep, Cu.nth]
  intro hrel _ _ _ _
  obtain ⟨E, P, L, now, i, rfl, rfl, HK, HV, HE, HT, HI, HP, HL, HB⟩ := hrel
  by_cases hi : i < n
  · by_cases h60 : i < 60
    · obtain ⟨ad, e0, hx0, hx1, hx2, hx3, hx4, hx5⟩ := at_T31 HR.out (i : Int) (by omega) (by have := HN.out; omega)
      subst e0
      replace hx0 := (HB.out.cell (World.block_lt_of_cell? w _ hx0)).trans hx0
      replace hx1 := (HB.out.cell (World.block_lt_of_cell? w _ hx1)).trans hx1
      replace hx3 := (HB.out.cell (World.block_lt_of_cell? w _ hx3)).trans hx3
      replace hx5 := (HB.out.cell (World.block_lt_of_cell? w _ hx5)).trans hx5
      rw [Int.toNat_natCast] at hx0 hx1 hx3 hx5
      generalize (rd_T31 l0 (i : Int)).f0 = xd at hx0
      generalize (rd_T31 l0 (i : Int)).f1.f0 = xc at hx1
      generalize (rd_T31 l0 (i : Int)).f1.f2 = xp at hx3
      generalize (rd_T31 l0 (i : Int)).f2 = xn at hx5
      clear hx2 hx4
      obtain ⟨m, hm4, hwm⟩ := Ap.within xd 4 (by decide) (by decide)
      obtain ⟨c, hc8, hwc⟩ := Ap.within xc 8 (by decide) (by decide)
      obtain ⟨p, hp1, hwp⟩ := Ap.within xp 1000 (by decide) (by decide)
      obtain ⟨dn, hdn, hwn⟩ := Ap.within xn 400 (by decide) (by decide)
      have HWM : Aside0 (∀ W, Calls Try.prog 7 #[.int .i64 xd, .int .i64 4] W _) := ⟨hwm⟩
      have HWC : Aside0 (∀ W, Calls Try.prog 7 #[.int .i64 xc, .int .i64 8] W _) := ⟨hwc⟩
      have HWP : Aside0 (∀ W, Calls Try.prog 7 #[.int .i64 xp, .int .i64 1000] W _) := ⟨hwp⟩
      have HWN : Aside0 (∀ W, Calls Try.prog 7 #[.int .i64 xn, .int .i64 400] W _) := ⟨hwn⟩
      have hii : (i : Int) < (n : Int) := by omega
      have hi6 : (i : Int) < 60 := by omega
      have hcc : (c : Int) < 8 := by omega
      have hPc := HP.out.get c (by rw [HV.out.pl]; exact hc8)
      have hLc := HL.out.get c (by rw [HV.out.ll]; exact hc8)
      obtain ⟨y, hy⟩ : ∃ y, y = P[c]! := ⟨_, rfl⟩
      obtain ⟨z, hz⟩ : ∃ z, z = L[c]! := ⟨_, rfl⟩
      rw [← hy] at hPc
      rw [← hz] at hLc
      have HY := Aside0.mk hy
      have HZ := Aside0.mk hz
      clear hy hz
      have hPf := HP.out.frozen c
      have hLf := HL.out.frozen c
      have HC8 := Aside0.mk hc8
      have HP1 := Aside0.mk hp1
      have HDN := Aside0.mk hdn
      have HII := Aside0.mk hi
      clear hwm hwc hwp hwn hi h60 hc8 hp1 hdn
      by_cases hm0 : m = 0
      · subst hm0
        have hw1 : IntKind.i64.wrap (1 + (p : Int)) = 1 + (p : Int) := by rw [IntKind.wrap_i64]; have := HP1.out; omega
        have hw2 : wrap64 (1 + (p : Int)) = 1 + (p : Int) := by unfold wrap64; have := HP1.out; omega
        by_cases hpc : 0 < y
        · go_wp2_with (first | (go_at_call 7; with_reducible refine (HWC.out _).mono ?_; rintro e w3 ⟨rfl, nd, rfl⟩) | (go_at_call 7; with_reducible refine (HWM.out _).mono ?_; rintro e w3 ⟨rfl, nd2, rfl⟩))
          refine Cu.handed (60 - (i + 1)) (by have := HK.out; omega) (by assumption) ?_ (by kernel_rfl) (by kernel_rfl)
          try dsimp only [Cu.pick, Cu.rep, Cu.nth]
          exact ⟨E, P, L, now, i + 1, rfl, by rw [Int.natCast_add]; rfl, ⟨by omega⟩, HV, ⟨by have := HE.out; omega⟩, ⟨by have := HT.out; omega⟩, ⟨HI.out.drewN _⟩, HP, HL, ⟨pw_below_drewN HB.out _⟩⟩
        · go_upto_region 28 with (first | (go_at_call 7; with_reducible refine (HWC.out _).mono ?_; rintro e w3 ⟨rfl, nd, rfl⟩) | (go_at_call 7; with_reducible refine (HWM.out _).mono ?_; rintro e w3 ⟨rfl, nd2, rfl⟩) | (go_at_call 7; with_reducible refine (HWP.out _).mono ?_; rintro e w3 ⟨rfl, nd3, rfl⟩))
          obtain ⟨w4, hw4⟩ : ∃ w4, w4 = (((wr.drewN (nd + nd2 + nd3)).setCell ⟨b, c, none⟩ (.int .i64 (1 + (p : Int)))).setCell ⟨b + 1, c, none⟩ (.int .i64 (-1))) := ⟨_, rfl⟩
          rw [← hw4]
          have hP4 : Ap.Arr w4 b 25 (P.set c (1 + (p : Int))) := by rw [hw4]; exact (Ap.Arr.set (w := wr.drewN (nd + nd2 + nd3)) HP.out c _).far (by simp) _
          have hL4 : Ap.Arr w4 (b + 1) 26 (L.set c (-1)) := by rw [hw4]; exact (Ap.Arr.far (w := wr.drewN (nd + nd2 + nd3)) HL.out (by simp) _).set c _
          have hB4 : Below w.heap.size w w4 := by rw [hw4]; exact below_set (below_set (pw_below_drewN HB.out _) HW.out) (by have := HW.out; show _ ≤ b + 1; omega)
          have hI4 : IsS65 w w4 g E := by rw [hw4]; exact IsS65.far (IsS65.far (HI.out.drewN _) (by have := HG.out; show g ≠ b; omega) _ (HP.out.drewN (nd + nd2 + nd3)).no77) (by have := HG.out; show g ≠ b + 1; omega) _ (no77_set (HL.out.drewN (nd + nd2 + nd3)).no77)
          have hPc4 := hP4.get c (by rw [List.length_set, HV.out.pl]; exact HC8.out)
          rw [Rt.set_get (by rw [HV.out.pl]; exact HC8.out), if_pos rfl] at hPc4
          have hadd : rate_Table_Add.f E (c : Int) 5 (1 + (p : Int)) 0 = some (0, Rt.Tb.add E (c : Int) 5 (1 + (p : Int)) 0) := by
            unfold rate_Table_Add.f
            rw [if_pos (by have := HE.out; omega), if_pos]
            unfold Rt.maySub
            have := HC8.out
            have := HP1.out
            simp
            omega
          have hinv := HV.out.add c HC8.out (by have := HY.out; omega) (1 + (p : Int)) (by omega) (by have := HP1.out; omega)
          have HP4 := Aside0.mk hP4
          have HL4 := Aside0.mk hL4
          have HB4 := Aside0.mk hB4
          have HI4 := Aside0.mk hI4
          have HADD := Aside0.mk hadd
          have HINV := Aside0.mk hinv
          clear hw4 hP4 hL4 hB4 hI4 hadd hinv hPc hLc hPf hLf hx0 hx1 hx3 hx5
          go_wp2_with (first | (go_at_call 9; with_reducible refine (rate_Table_Add.calls g E (c : Int) 5 (1 + (p : Int)) 0 0 _ w _ HI4.out HB4.out HADD.out).mono ?_; rintro e w5 ⟨rfl, hi5, hb5, hk5⟩; have HI5 := Aside0.mk hi5; have HB5 := Aside0.mk hb5; have HP5 := Aside0.mk (show Ap.Arr w5 b 25 _ from Ap.Arr.keep HP4.out hk5 (by have := HG.out; omega)); have HL5 := Aside0.mk (show Ap.Arr w5 (b + 1) 26 _ from Ap.Arr.keep HL4.out hk5 (by have := HG.out; omega)); clear hi5 hb5 hk5) | (go_at_call 8; with_reducible refine (gimballaw27_num.calls 0 0 _ rfl).mono ?_; rintro e w6 ⟨rfl, nd4, rfl⟩))
          refine Cu.handed (60 - (i + 1)) (by have := HK.out; omega) (by assumption) ?_ (by kernel_rfl) (by kernel_rfl)
          try dsimp only [Cu.pick, Cu.rep, Cu.nth]
          refine ⟨_, _, _, now, i + 1, rfl, by rw [Int.natCast_add]; rfl, ⟨by omega⟩, HINV, ⟨?_⟩, ⟨by have := HT.out; omega⟩, ⟨HI5.out.drewN _⟩, HP5, HL5, ⟨pw_below_drewN HB5.out _⟩⟩
          have h1 := Rt.len_add HV.out.srt (c : Int) 5 (1 + (p : Int)) 0
          have h2 := HE.out
          rw [h1]
          split <;> omega
      · by_cases hm1 : m = 1
        · subst hm1
          have hhas := HV.out.has c HC8.out
          rw [← HY.out] at hhas
          have hdrop : ∃ q : Int, ((0 < y ∧ q = 0) ∨ (¬ 0 < y ∧ q = 5)) ∧ rate_Table_Drop.f E (c : Int) 5 = some (q, Rt.Tb.rem E (c : Int) 5) := by
            refine ⟨if Rt.Tb.has E (c : Int) 5 then 0 else 5, ?_, ?_⟩
            · rw [hhas]
              split <;> simp [*]
            · unfold rate_Table_Drop.f
              rw [if_pos (by have := HE.out; omega)]
          obtain ⟨q, hq, hdrop⟩ := hdrop
          have HD := Aside0.mk hdrop
          have HQ := Aside0.mk hq
          clear hhas hq hdrop
          rcases HQ.out with ⟨hpc, rfl⟩ | ⟨hpc, rfl⟩
          all_goals
            go_upto_region 32 with (first | (go_at_call 7; with_reducible refine (HWC.out _).mono ?_; rintro e w3 ⟨rfl, nd, rfl⟩) | (go_at_call 7; with_reducible refine (HWM.out _).mono ?_; rintro e w3 ⟨rfl, nd2, rfl⟩) | (go_at_call 10; with_reducible refine (rate_Table_Drop.calls g E (c : Int) 5 _ _ w _ (HI.out.drewN _) (pw_below_drewN HB.out _) HD.out).mono ?_; rintro e w5 ⟨rfl, hi5, hb5, hk5⟩; have HI5 := Aside0.mk hi5; have HB5 := Aside0.mk hb5; have HP5 := Aside0.mk (show Ap.Arr w5 b 25 P from Ap.Arr.keep (HP.out.drewN _) hk5 (by have := HG.out; omega)); have HL5 := Aside0.mk (show Ap.Arr w5 (b + 1) 26 L from Ap.Arr.keep (HL.out.drewN _) hk5 (by have := HG.out; omega)); clear hi5 hb5 hk5))
            have hPc5 := HP5.out.get c (by rw [HV.out.pl]; exact HC8.out)
            rw [← HY.out] at hPc5
            have hPf5 := HP5.out.frozen c
            clear hPc hLc hPf hLf hx0 hx1 hx3 hx5
            go_region_held3 (fun w' : World => w'.cell? ⟨b, c, none⟩ = some (.int .i64 y)) (first | with_reducible assumption | exact hPc5 | (simp; done)) (first | (go_at_call 8; with_reducible refine (gimballaw27_num.calls _ _ _ rfl).mono ?_; rintro e w6 ⟨rfl, nd4, rfl⟩))
            have HP6 := Aside0.mk (Ap.Arr.set (HP5.out.drewN (1 + nd4)) c 0)
            have HL6 := Aside0.mk (Ap.Arr.far (HL5.out.drewN (1 + nd4)) (p := ⟨b, c, none⟩) (by simp) (.int .i64 0))
            have HI6 := Aside0.mk (IsS65.far (HI5.out.drewN (1 + nd4)) (p := ⟨b, c, none⟩) (by have := HG.out; show g ≠ b; omega) (.int .i64 0) (HP5.out.drewN (1 + nd4)).no77)
            have HB6 := Aside0.mk (below_set (g := b) (j := c) (v := .int .i64 0) (pw_below_drewN HB5.out (1 + nd4)) HW.out)
            have HINV := Aside0.mk (HV.out.drop c HC8.out)
            go_wp2_with fail
            refine Cu.handed (60 - (i + 1)) (by have := HK.out; omega) (by assumption) ?_ (by kernel_rfl) (by kernel_rfl)
            try dsimp only [Cu.pick, Cu.rep, Cu.nth]
            refine ⟨_, _, _, now, i + 1, rfl, by rw [Int.natCast_add]; rfl, ⟨by omega⟩, HINV, ⟨?_⟩, ⟨by have := HT.out; omega⟩, HI6, HP6, HL6, HB6⟩
            have h1 := (Rt.rem_sub E (c : Int) 5).length_le
            have h2 := HE.out
            omega
        · have hn0 := HV.out.now0
          obtain ⟨n2, hn2⟩ : ∃ n2, n2 = now + (dn : Int) := ⟨_, rfl⟩
          have hnw : IntKind.i64.wrap (now + (dn : Int)) = n2 := by rw [IntKind.wrap_i64]; have := HT.out; have := HDN.out; omega
          have hnw2 : wrap64 (now + (dn : Int)) = n2 := by unfold wrap64; have := HT.out; have := HDN.out; omega
          have hV2 := HV.out.later (n2 := n2) (by omega)
          have hT2 : n2 ≤ 400 * ((i + 1 : Nat) : Int) := by have := HT.out; have := HDN.out; omega
          have hm0' : ¬ (m : Int) = 0 := by omega
          have hm1' : ¬ (m : Int) = 1 := by omega
          have htk : rate_Table_Take.f E 5 n2 = some (Rt.takeL E 5 n2, 0, Rt.takeE E 5 n2) := by
            unfold rate_Table_Take.f
            rw [if_pos (by have := HE.out; omega), if_pos]
            unfold Rt.senOk Rt.timeOk
            have := HT.out
            simp
            omega
          obtain ⟨t1, t2, t3⟩ := Rt.take_rising hV2
          have hinv := hV2.take (by have := HT.out; omega)
          obtain ⟨l, hl⟩ : ∃ l, l = Rt.takeL E 5 n2 := ⟨_, rfl⟩
          rw [← hl] at htk t1 t2 t3
          have hll : l.length < 1000000 := by rw [hl]; have := Rt.takeL_len E 5 n2; have := HE.out; omega
          obtain ⟨kr, hkr⟩ := Ap.rising_f l t1 t2 hll
          have HTK := Aside0.mk htk
          have HKR := Aside0.mk hkr
          have HT3 := Aside0.mk t3
          have HV2 := Aside0.mk hV2
          have HT2 := Aside0.mk hT2
          have HINV := Aside0.mk hinv
          have HLL := Aside0.mk hll
          clear hm0 hm1 hV2 hT2 htk t1 t2 t3 hinv hl hn2 hkr hll hn0
          go_upto_region 16 with (first | (go_at_call 7; with_reducible refine (HWC.out _).mono ?_; rintro e w3 ⟨rfl, nd, rfl⟩) | (go_at_call 7; with_reducible refine (HWM.out _).mono ?_; rintro e w3 ⟨rfl, nd2, rfl⟩) | (go_at_call 7; with_reducible refine (HWN.out _).mono ?_; rintro e w3 ⟨rfl, nd3, rfl⟩) | (go_at_call 11; with_reducible refine (rate_Table_Take.calls g E 5 n2 l 0 _ w _ (HI.out.drewN _) (pw_below_drewN HB.out _) HTK.out).mono ?_; rintro e w5 ⟨v5, rfl, ho5, hi5, hb5, hk5⟩; obtain ⟨A5, c5, rfl⟩ := Kd.R_slice ho5; have HI5 := Aside0.mk hi5; have HB5 := Aside0.mk hb5; have HO5 := Aside0.mk ho5; have HP5 := Aside0.mk (show Ap.Arr w5 b 25 P from Ap.Arr.keep (HP.out.drewN _) hk5 (by have := HG.out; omega)); have HL5 := Aside0.mk (show Ap.Arr w5 (b + 1) 26 L from Ap.Arr.keep (HL.out.drewN _) hk5 (by have := HG.out; omega)); clear hi5 hb5 hk5 ho5) | (go_at_call 8; with_reducible refine (gimballaw27_num.calls 0 0 _ rfl).mono ?_; rintro e w6 ⟨rfl, nd4, rfl⟩) | (go_at_call 12; refine (gimbalref0_Rising.calls kr A5 c5 l 0 8 true _ (Kd.R_reads' (Kd.R_drewN HO5.out nd4)).2.2 (Kd.R_reads' HO5.out).2.1 HKR.out).mono ?_; rintro e w6 ⟨rfl, nd5, rfl⟩))
          obtain ⟨B5, HO⟩ : ∃ B5, Aside0 (Kd.R (Kd.int .i64) 3 w5 B5 (fun _ => True) (.slice A5 l.length c5) l) := ⟨_, HO5⟩
          clear HO5 hx0 hx1 hx3 hx5 hPc hLc hPf hLf
          go_wp2_with fail
          refine Cu.wp_loop (Cu.rep 12 Cu.f (Cu.rep 2 Cu.t (Cu.rep 48 Cu.f (Cu.rep 34 Cu.t (Cu.rep 43 Cu.f []))))) 36 (fun kq us_ w' => ∃ (j : Nat), (Cu.nth us_ 0) = .int .i64 (j : Int) ∧ Aside0 (kq + j = 8) ∧ Aside0 (IsS65 w w' g (Rt.takeE E 5 n2)) ∧ Aside0 (Ap.Arr w' b 25 P) ∧ Aside0 (Ap.Arr w' (b + 1) 26 (Rt.upto P L n2 j)) ∧ Aside0 (Below w.heap.size w w') ∧ Aside0 (Kd.R (Kd.int .i64) 3 w' B5 (fun _ => True) (.slice A5 l.length c5) l)) 8 ?_ (by kernel_rfl) (by kernel_rfl) ?_
          · try dsimp only [Cu.pick, Cu.rep, Cu.nth]
            exact ⟨0, rfl, ⟨rfl⟩, ⟨HI5.out.drewN _⟩, ⟨HP5.out.drewN _⟩, ⟨by rw [Rt.upto_zero HV.out.ll]; exact HL5.out.drewN _⟩, ⟨pw_below_drewN HB5.out _⟩, ⟨Kd.R_drewN HO.out _⟩⟩
          clear HI5 HP5 HL5 HB5 HO
          intro gk2 wr2 v12 v13 v62 v63 v64 v65 v66 v67 v68 v69 v70 v71 v72 v73 v74 v75 v76 v77 v78 v79 v80 v81 v82 v83 v84 v85 v86 v87 v88 v89 v90 v91 v92 v93 v94 v95
          try dsimp only [Cu.over, Cu.rep, Cu.nth]
          intro hrel2 _ _ _ _
          obtain ⟨j, rfl, HK2, HI2, HP2, HL2, HB2, HO2⟩ := hrel2
          by_cases hj : j < 8
          · have hjj : (j : Int) < 8 := by omega
            have hpj := HP2.out.get j (by rw [HV.out.pl]; exact hj)
            have hlj := HL2.out.get j (by rw [Rt.upto_len]; exact hj)
            rw [Rt.upto_get P L n2 j j hj, if_neg (by omega)] at hlj
            have hlf := HL2.out.frozen j
            have hwant : decide ((j : Int) ∈ l) = Rt.want P L n2 j := by
              have := HT3.out j hj
              cases hq : Rt.want P L n2 j with
              | true => exact decide_eq_true (this.2 hq)
              | false => exact decide_eq_false (fun hm => by rw [this.1 hm] at hq; cases hq)
            have hsucc := Rt.upto_succ P L n2 j hj
            have hrng := HV.out.rng j hj
            have hlst := HV2.out.last j hj
            unfold Rt.want at hwant hsucc
            obtain ⟨yj, hyj⟩ : ∃ y, y = P[j]! := ⟨_, rfl⟩
            obtain ⟨zj, hzj⟩ : ∃ y, y = L[j]! := ⟨_, rfl⟩
            rw [← hyj, ← hzj] at hwant hsucc
            rw [← hyj] at hpj hrng
            rw [← hzj] at hlj hlst
            obtain ⟨ki, hki⟩ := Ap.in_f l (j : Int) HLL.out
            have hsub : wrap64 (n2 - zj) = n2 - zj := by unfold wrap64; have := HT2.out; have := HV2.out.now0; omega
            have hsub2 : IntKind.i64.wrap (n2 - zj) = n2 - zj := by rw [IntKind.wrap_i64]; have := HT2.out; have := HV2.out.now0; omega
            have HKI := Aside0.mk hki
            clear hki hyj hzj hrng hlst
            have HJ := Aside0.mk hj
            clear hj
            by_cases hA : 0 < yj
            · by_cases hZ : zj < 0
              · have hwv : (decide (0 < yj) && (decide (zj < 0) || decide (yj ≤ n2 - zj))) = true := by rw [decide_eq_true hA, decide_eq_true hZ]; rfl
                rw [hwv] at hwant hsucc
                rw [hwant] at HKI
                have HSU := Aside0.mk hsucc
                clear hwant hsucc hwv
                go_upto_region 19 with (fail)
                go_quiet (fail)
                go_wp2_with (first | (go_at_call 13; with_reducible refine (gimbalref0_In.calls ki A5 c5 l (j : Int) _ _ (Kd.R_reads' (Kd.R_drewN HO2.out _)).2.2 (Kd.R_reads' HO2.out).2.1 HKI.out).mono ?_; rintro e w7 ⟨rfl, nd7, rfl⟩))
                refine Cu.handed (8 - (j + 1)) (by have := HK2.out; omega) (by assumption) ?_ (by kernel_rfl) (by kernel_rfl)
                try dsimp only [Cu.pick, Cu.rep, Cu.nth]
                exact ⟨j + 1, by rw [Int.natCast_add]; rfl, ⟨by have := HK2.out; have := HJ.out; omega⟩, ⟨IsS65.far (HI2.out.drewN (nq + nd7)) (p := ⟨b + 1, j, none⟩) (by have := HG.out; show g ≠ b + 1; omega) (.int .i64 n2) (HL2.out.drewN (nq + nd7)).no77⟩, ⟨Ap.Arr.far (HP2.out.drewN (nq + nd7)) (p := ⟨b + 1, j, none⟩) (by simp) (.int .i64 n2)⟩, ⟨by rw [HSU.out]; exact Ap.Arr.set (HL2.out.drewN (nq + nd7)) j n2⟩, ⟨below_set (g := b + 1) (j := j) (v := .int .i64 n2) (pw_below_drewN HB2.out (nq + nd7)) (by have := HW.out; omega)⟩, ⟨Kd.R_set (Kd.R_drewN HO2.out (nq + nd7)) (show (wr2.drewN (nq + nd7)).heap[b + 1]? = _ from HL2.out) (by decide) j (.int .i64 n2)⟩⟩
              · by_cases hC : yj ≤ n2 - zj
                · have hwv : (decide (0 < yj) && (decide (zj < 0) || decide (yj ≤ n2 - zj))) = true := by rw [decide_eq_true hA, decide_eq_true hC, Bool.or_true]; rfl
                  rw [hwv] at hwant hsucc
                  rw [hwant] at HKI
                  have HSU := Aside0.mk hsucc
                  clear hwant hsucc hwv
                  go_upto_region 19 with (fail)
                  go_quiet (fail)
                  go_wp2_with (first | (go_at_call 13; with_reducible refine (gimbalref0_In.calls ki A5 c5 l (j : Int) _ _ (Kd.R_reads' (Kd.R_drewN HO2.out _)).2.2 (Kd.R_reads' HO2.out).2.1 HKI.out).mono ?_; rintro e w7 ⟨rfl, nd7, rfl⟩))
                  refine Cu.handed (8 - (j + 1)) (by have := HK2.out; omega) (by assumption) ?_ (by kernel_rfl) (by kernel_rfl)
                  try dsimp only [Cu.pick, Cu.rep, Cu.nth]
                  exact ⟨j + 1, by rw [Int.natCast_add]; rfl, ⟨by have := HK2.out; have := HJ.out; omega⟩, ⟨IsS65.far (HI2.out.drewN (nq + nd7)) (p := ⟨b + 1, j, none⟩) (by have := HG.out; show g ≠ b + 1; omega) (.int .i64 n2) (HL2.out.drewN (nq + nd7)).no77⟩, ⟨Ap.Arr.far (HP2.out.drewN (nq + nd7)) (p := ⟨b + 1, j, none⟩) (by simp) (.int .i64 n2)⟩, ⟨by rw [HSU.out]; exact Ap.Arr.set (HL2.out.drewN (nq + nd7)) j n2⟩, ⟨below_set (g := b + 1) (j := j) (v := .int .i64 n2) (pw_below_drewN HB2.out (nq + nd7)) (by have := HW.out; omega)⟩, ⟨Kd.R_set (Kd.R_drewN HO2.out (nq + nd7)) (show (wr2.drewN (nq + nd7)).heap[b + 1]? = _ from HL2.out) (by decide) j (.int .i64 n2)⟩⟩
                · have hwv : (decide (0 < yj) && (decide (zj < 0) || decide (yj ≤ n2 - zj))) = false := by rw [decide_eq_false hZ, decide_eq_false hC, Bool.or_false, Bool.and_false]
                  rw [hwv] at hwant hsucc
                  rw [hwant] at HKI
                  have HSU := Aside0.mk hsucc
                  clear hwant hsucc hwv
                  go_upto_region 19 with (fail)
                  go_quiet (fail)
                  go_wp2_with (first | (go_at_call 13; with_reducible refine (gimbalref0_In.calls ki A5 c5 l (j : Int) _ _ (Kd.R_reads' (Kd.R_drewN HO2.out _)).2.2 (Kd.R_reads' HO2.out).2.1 HKI.out).mono ?_; rintro e w7 ⟨rfl, nd7, rfl⟩))
                  refine Cu.handed (8 - (j + 1)) (by have := HK2.out; omega) (by assumption) ?_ (by kernel_rfl) (by kernel_rfl)
                  try dsimp only [Cu.pick, Cu.rep, Cu.nth]
                  exact ⟨j + 1, by rw [Int.natCast_add]; rfl, ⟨by have := HK2.out; have := HJ.out; omega⟩, ⟨HI2.out.drewN (nq + nd7)⟩, ⟨HP2.out.drewN (nq + nd7)⟩, ⟨by rw [HSU.out]; exact HL2.out.drewN (nq + nd7)⟩, ⟨pw_below_drewN HB2.out (nq + nd7)⟩, ⟨Kd.R_drewN HO2.out (nq + nd7)⟩⟩
            · have hwv : (decide (0 < yj) && (decide (zj < 0) || decide (yj ≤ n2 - zj))) = false := by rw [decide_eq_false hA, Bool.false_and]
              rw [hwv] at hwant hsucc
              rw [hwant] at HKI
              have HSU := Aside0.mk hsucc
              clear hwant hsucc hwv
              go_upto_region 19 with (fail)
              go_quiet (fail)
              go_wp2_with (first | (go_at_call 13; with_reducible refine (gimbalref0_In.calls ki A5 c5 l (j : Int) _ _ (Kd.R_reads' (Kd.R_drewN HO2.out _)).2.2 (Kd.R_reads' HO2.out).2.1 HKI.out).mono ?_; rintro e w7 ⟨rfl, nd7, rfl⟩))
              refine Cu.handed (8 - (j + 1)) (by have := HK2.out; omega) (by assumption) ?_ (by kernel_rfl) (by kernel_rfl)
              try dsimp only [Cu.pick, Cu.rep, Cu.nth]
              exact ⟨j + 1, by rw [Int.natCast_add]; rfl, ⟨by have := HK2.out; have := HJ.out; omega⟩, ⟨HI2.out.drewN (nq + nd7)⟩, ⟨HP2.out.drewN (nq + nd7)⟩, ⟨by rw [HSU.out]; exact HL2.out.drewN (nq + nd7)⟩, ⟨pw_below_drewN HB2.out (nq + nd7)⟩, ⟨Kd.R_drewN HO2.out (nq + nd7)⟩⟩
          · have hjj : ¬ (j : Int) < 8 := by omega
            obtain rfl : j = 8 := by have := HK2.out; omega
            clear hj
            go_wp2_with fail
            refine Cu.handed (60 - (i + 1)) (by have := HK.out; omega) (by assumption) ?_ (by kernel_rfl) (by kernel_rfl)
            try dsimp only [Cu.pick, Cu.rep, Cu.nth]
            exact ⟨_, P, _, n2, i + 1, rfl, by rw [Int.natCast_add]; rfl, ⟨by omega⟩, HINV, ⟨by rw [HV2.out.len]; have := HE.out; omega⟩, HT2, HI2, HP2, HL2, HB2⟩
    · have hx1 : (i : Int) < (n : Int) := by omega
      have hx2 : ¬ (i : Int) < 60 := by omega
      clear hi h60
      obtain ⟨kw, hkw⟩ := Ap.wakes_f
      have HKW := Aside0.mk hkw
      clear hkw
      go_wp2_with (go_at_call 14; refine (gimballaw27_wakes.calls kw true _ HKW.out).mono ?_; rintro e w3 ⟨rfl, hb⟩; have HB2 := Aside0.mk (below_step HB.out hb); clear hb)
      go_ret
      exact ⟨rfl, HB2.out⟩
  · have hx1 : ¬ (i : Int) < (n : Int) := by omega
    clear hi
    obtain ⟨kw, hkw⟩ := Ap.wakes_f
    have HKW := Aside0.mk hkw
    clear hkw
    go_wp2_with (go_at_call 14; refine (gimballaw27_wakes.calls kw true _ HKW.out).mono ?_; rintro e w3 ⟨rfl, hb⟩; have HB2 := Aside0.mk (below_step HB.out hb); clear hb)
    go_ret
    exact ⟨rfl, HB2.out⟩

end Go.Proofs.Ytfdfnmlbmijdjaa.PRateApart
