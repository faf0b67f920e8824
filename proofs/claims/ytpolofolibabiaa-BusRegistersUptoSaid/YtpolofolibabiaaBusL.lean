/-
  Package bus: what a device does.
  No conditions.
-/
import Derived.Test.YtpolofolibabiaaBusK
namespace Go.Proofs.Ytpolofolibabiaa.Bs
open Go Go.RowKit Go.Lib Go.Proofs.YtpolofolibabiaaW.PrintWords Go.Proofs.YtpolofolibabiaaW.PrintLast Go.Proofs.YtpolofolibabiaaW.PrintMore
set_option linter.unusedVariables false
set_option linter.unusedSimpArgs false
def Dv.wr (x : Dv) (reg : Int) (wl : List Int) : Nat → Dv
  | 0 => x
  | i + 1 => (Dv.wr x reg wl i).write (reg + i) (rd wl i)
def Dv.reads (x : Dv) (reg : Int) (n : Nat) : List Int := (List.range n).map (fun i : Nat => x.read (reg + (i : Int)))
def Dv.doesD (x : Dv) (reg : Int) (wl : List Int) (n : Nat) : Dv := if wl.length > 0 then x.wr reg wl wl.length else if reg = 4 then { x with q := x.q.drop ((n + 7) / 8) } else x
def Dv.doesB (x : Dv) (reg : Int) (wl : List Int) (n : Nat) : List Int := if wl.length > 0 then [] else if reg = 4 then (burstB x.q ((n + 7) / 8)).take n else x.reads reg n
theorem RB.row {w : World} {base : Nat} {v : Value} {bs : List Int} (h : RB w base v bs) : ByteRow w base v bs := by
  obtain ⟨A, c, rfl⟩ := Kd.R_slice h
  by_cases hl : 0 < bs.length
  · obtain ⟨g, cur, rfl, hg, hc, hx⟩ := RB.cells h hl
    exact .inr ⟨g, c, cur, rfl, hg, hc, (Kd.R_reads' h).2.1, hx⟩
  · have hb : bs = [] := List.eq_nil_of_length_eq_zero (by omega)
    subst hb
    have ho := Kd.own_of_R h
    obtain ⟨hlen, ⟨hv, hz⟩ | ⟨g, cap, cur, hv, hg, hc, hnc, hm, hs, ht⟩⟩ := ho
    · exact .inl ⟨hv, rfl⟩
    · rw [hv]
      exact .inr ⟨g, cap, cur, rfl, hg, hc, hnc, fun j hj => absurd hj (Nat.not_lt_zero j)⟩
theorem ByteRow.base {w : World} {b1 b2 : Nat} {v : Value} {bs : List Int} (h : ByteRow w b1 v bs) (hb : b2 ≤ b1) : ByteRow w b2 v bs := by
  rcases h with h | ⟨g, cap, cs, h1, h2, h3⟩
  · exact .inl h
  · exact .inr ⟨g, cap, cs, h1, Nat.le_trans hb h2, h3⟩
theorem RB.drewN {w : World} {base : Nat} {v : Value} {bs : List Int} (h : RB w base v bs) (n : Nat) : RB (w.drewN n) base v bs := h
set_option maxHeartbeats 8000000 in
set_option maxRecDepth 100000 in
theorem does_ (w : World) (p : Pl) (lv : Value) (x : Dv) (h : DevQ w p lv x) (ad reg : Int) (A : Option Addr) (c : Nat) (wl : List Int) (n : Nat) (hr0 : 0 ≤ reg) (hr5 : reg ≤ 5) (hl8 : wl.length ≤ 8) (hby : ∀ i : Nat, i < wl.length → 0 ≤ rd wl i ∧ rd wl i < 256) (hn0 : wl.length = 0 → 0 < n) (hn : n ≤ 128) (hC : ∀ W, Fr (FS p) w W → Kd.C (Kd.int .u8) W A wl.length wl) : Calls Try.prog 34 #[.pointer (some ⟨p.d, 0, none⟩), .agg #[.int .i64 ad, .int .i64 reg, .slice A wl.length c, .int .i64 (n : Int)]] w fun e w' => ∃ v, e = .returned v ∧ ByteRow w' w.heap.size v (x.doesB reg wl n) ∧ DevQ w' p lv (x.doesD reg wl n) ∧ Fr (FS p) w w' := by
  have H := Aside0.mk h
  have HC := Aside0.mk hC
  have HBY := Aside0.mk hby
  have hold : ∀ k, FS p k → k < w.heap.size := by
    rintro k (e | e | e | e)
    · exact e ▸ (Array.getElem?_eq_some_iff.1 h.head).1
    · exact e ▸ h.ring.old.1
    · exact e ▸ h.ring.old.2.1
    · exact e ▸ h.ring.old.2.2
  have HOLD := Aside0.mk hold
  clear h hC hby hold
  go_enter Try.func34, Try.ntmps34
  go_upto_region 1 with fail
  obtain ⟨w1, hw1⟩ : ∃ w1, w1 = w.alloc (.cells #[.int .i64 ad, .int .i64 reg, .slice A wl.length c, .int .i64 (n : Int)] 39) := ⟨_, rfl⟩
  rw [← hw1]
  have hb1 : Below w.heap.size w w1 := hw1 ▸ below_alloc (Below.refl _ _) _
  have hx1 : w1.heap[w.heap.size]? = some (.cells #[.int .i64 ad, .int .i64 reg, .slice A wl.length c, .int .i64 (n : Int)] 39 (0, 0)) := by rw [hw1]; exact blk_new w _
  obtain ⟨y, hy⟩ : ∃ y, y = w.heap.size := ⟨_, rfl⟩
  rw [← hy] at hx1 ⊢
  have hny : ¬ FS p y := fun e => by have := HOLD.out y e; omega
  have HX := Aside0.mk (show ∀ W, Fr (FS p) w1 W → W.heap[y]? = some (.cells #[.int .i64 ad, .int .i64 reg, .slice A wl.length c, .int .i64 (n : Int)] 39 (0, 0)) from fun W hW => hW.blk hx1 hny)
  have HF1 := Aside0.mk (show Fr (FS p) w w1 from Fr.of_below hb1)
  have HD1 := Aside0.mk (H.out.below hb1)
  clear hw1 hb1 hx1 hy hny HOLD H
  obtain ⟨y0, y1, y2, y3⟩ := box4 (HX.out w1 (Fr.refl _ _))
  go_wp2_with fail
  refine Cu.wp_loop (Cu.rep 5 Cu.f (Cu.rep 2 Cu.t (Cu.rep 4 Cu.f (Cu.rep 13 Cu.t (Cu.rep 29 Cu.f []))))) 15 (fun kq us_ w' => ∃ i : Nat, (Cu.nth us_ 2) = .int .i64 (i : Int) ∧ Aside0 (kq + i = wl.length) ∧ Aside0 (DevQ w' p lv (x.wr reg wl i)) ∧ Aside0 (Fr (FS p) w1 w')) wl.length ?_ (by kernel_rfl) (by kernel_rfl) ?_
  · try dsimp only [Cu.pick, Cu.rep, Cu.nth]
    exact ⟨0, rfl, ⟨rfl⟩, HD1, ⟨Fr.refl _ _⟩⟩
  · clear HD1 y0 y1 y2 y3
    intro gk wr u5 u6 u11 u12 u13 u14 u15 u16 u17 u18 u19 u20 u21 u22 u23
    try dsimp only [Cu.over, Cu.rep, Cu.nth]
    intro hrel _ _ _ _
    obtain ⟨i, rfl, HK, HD, HF⟩ := hrel
    obtain ⟨y0, y1, y2, y3⟩ := box4 (HX.out wr HF.out)
    by_cases hi : i < wl.length
    · have hid : decide ((i : Int) < (wl.length : Int)) = true := decide_eq_true (by omega)
      obtain ⟨a0, rfl, hcell⟩ := Kd.at_int (HC.out wr (HF1.out.trans HF.out)) (i : Int) (by omega) (by omega)
      rw [Int.toNat_natCast] at hcell
      have hwr : IntKind.i64.wrap (reg + (i : Int)) = reg + (i : Int) := by rw [IntKind.wrap_i64]; omega
      have hwr2 : wrap64 (reg + (i : Int)) = reg + (i : Int) := by unfold wrap64; omega
      have HW := Aside0.mk (write_ wr p lv _ HD.out (reg + (i : Int)) (rd wl i) (HBY.out i hi).1 (HBY.out i hi).2)
      go_wp2_with (go_at_call 47; with_reducible refine HW.out.mono ?_; rintro e w3 ⟨rfl, hd3, hf3⟩; have HD3 := Aside0.mk hd3; have HF3 := Aside0.mk hf3; clear hd3 hf3)
      have hk := HK.out
      refine Cu.handed (wl.length - (i + 1)) (by omega) (by assumption) ?_ (by kernel_rfl) (by kernel_rfl)
      try dsimp only [Cu.pick, Cu.rep, Cu.nth]
      exact ⟨i + 1, by rw [Int.natCast_add]; rfl, ⟨by omega⟩, HD3, ⟨HF.out.trans HF3.out⟩⟩
    · have hid : decide ((i : Int) < (wl.length : Int)) = false := decide_eq_false (by omega)
      have hil : i = wl.length := by have := HK.out; omega
      by_cases hl0 : 0 < wl.length
      · have hld : decide ((wl.length : Int) > 0) = true := decide_eq_true (by omega)
        go_wp2
        go_ret
        refine ⟨_, rfl, ?_, ?_, HF1.out.trans HF.out⟩
        · rw [show x.doesB reg wl n = [] by unfold Dv.doesB; rw [if_pos hl0]]
          exact .inl ⟨rfl, rfl⟩
        · rw [show x.doesD reg wl n = x.wr reg wl wl.length by unfold Dv.doesD; rw [if_pos hl0], ← hil]
          exact HD.out
      · have hld : decide ((wl.length : Int) > 0) = false := decide_eq_false (by omega)
        have hi0 : i = 0 := by omega
        have hn1 : 0 < n := hn0 (by omega)
        have hd0 : DevQ wr p lv x := by have := HD.out; rw [hi0] at this; exact this
        have HD0 := Aside0.mk hd0
        clear hd0 HD HBY HC
        by_cases h4 : reg = 4
        · subst h4
          have HB := Aside0.mk (burst_ wr p lv x HD0.out n hn1 hn)
          go_wp2_with (go_at_call 48; with_reducible refine HB.out.mono ?_; rintro e w3 ⟨v3, rfl, hb3, hd3, hf3⟩; have HB3 := Aside0.mk hb3; have HD3 := Aside0.mk hd3; have HF3 := Aside0.mk hf3; clear hb3 hd3 hf3)
          go_ret
          refine ⟨_, rfl, ?_, ?_, (HF1.out.trans HF.out).trans HF3.out⟩
          · rw [show x.doesB 4 wl n = (burstB x.q ((n + 7) / 8)).take n by unfold Dv.doesB; rw [if_neg hl0, if_pos rfl]]
            exact HB3.out.base (Nat.le_trans HF1.out.size HF.out.size)
          · rw [show x.doesD 4 wl n = { x with q := x.q.drop ((n + 7) / 8) } by unfold Dv.doesD; rw [if_neg hl0, if_pos rfl]]
            exact HD3.out
        · have hr4 : (reg == 4) = false := by simp [h4]
          clear hi0
          subst hil
          clear hr4
          go_upto_region 10 with fail
          go_wp2_with fail
          clear y0 y1 y2 y3
          refine Cu.wp_loop (Cu.rep 4 Cu.f (Cu.rep 1 Cu.t (Cu.rep 2 Cu.f (Cu.rep 1 Cu.t (Cu.rep 16 Cu.f (Cu.rep 13 Cu.t (Cu.rep 2 Cu.f (Cu.rep 13 Cu.t (Cu.rep 1 Cu.f []))))))))) 28 (fun kq us_ w' => ∃ m : Nat, (Cu.nth us_ 15) = .int .i64 (m : Int) ∧ Aside0 (kq + m = n) ∧ Aside0 (RB w' w1.heap.size (Cu.nth us_ 0) (x.reads reg m)) ∧ Aside0 (DevQ w' p lv x) ∧ Aside0 (Fr (FS p) w1 w')) n ?_ (by kernel_rfl) (by kernel_rfl) ?_
          · try dsimp only [Cu.pick, Cu.rep, Cu.nth]
            exact ⟨0, rfl, ⟨rfl⟩, ⟨Kd.R_nil _ _ _ _ _⟩, HD0, HF⟩
          · clear HD0 HF HK
            intro gi wi r4 r7 r24 r25 r26 r27 r28 r29 r30 r31 r32 r33 r34 r35 r36 r39 r40 r41 r42 r43 r44 r45 r46 r47 r48 r49 r50 r51
            try dsimp only [Cu.over, Cu.rep, Cu.nth]
            intro hrel _ _ _ _
            obtain ⟨m, rfl, HM, HRi, HDi, HFi⟩ := hrel
            obtain ⟨Ai, cpi, rfl⟩ := Kd.R_slice HRi.out
            obtain ⟨bi, hbi⟩ : ∃ bi, bi = x.reads reg m := ⟨_, rfl⟩
            rw [← hbi] at HRi ⊢
            have hil : bi.length = m := by rw [hbi, Dv.reads, List.length_map, List.length_range]
            have HBI := Aside0.mk hbi
            have HIL := Aside0.mk hil
            clear hbi hil
            obtain ⟨y0, y1, y2, y3⟩ := box4 (HX.out wi HFi.out)
            by_cases hm : m < n
            · have hmd : decide ((m : Int) < (n : Int)) = true := decide_eq_true (by omega)
              have hwr : IntKind.i64.wrap (reg + (m : Int)) = reg + (m : Int) := by rw [IntKind.wrap_i64]; omega
              have hwr2 : wrap64 (reg + (m : Int)) = reg + (m : Int) := by unfold wrap64; omega
              have HRD := Aside0.mk (read_ wi p lv x HDi.out (reg + (m : Int)))
              have hli : (bi.length + 1) * 1 ≤ 140737488355328 := by have := HIL.out; omega
              go_wp2_with (first | (go_at_call 49; with_reducible refine HRD.out.mono ?_; rintro e w3 ⟨rfl, nd, rfl⟩) | (at_builtin; refine Kd.R_append (Kd.int .u8) (w0 := wi.drewN nd) w1.heap.size rfl (.tmp 42) (.tmp 49) 37 5 (.int .u8 0) 1 rfl Try.underlying37 infoB rfl (by decide) (by omega) (.slice Ai bi.length cpi) bi (x.read (reg + (m : Int))) [_] (fun _ => True) (fun _ => False) rfl rfl ?aP (fun _ hk => hk.elim) ?aF ?aO ?aB ?aS ?aL ?_; (case aP => rfl); (case aF => exact (fun _ _ => trivial)); (case aO => exact HRi.out); (case aB => exact ⟨rfl, rfl, rfl, Nat.le_refl _, fun _ _ => rfl⟩); (case aS => exact HFi.out.size); (case aL => exact hli); intro v6 w6 ho hb hg hat; have HO6 := Aside0.mk ho; have HG6 := Aside0.mk hg; clear ho hb hg hat))
              have hk := HM.out
              refine Cu.handed (n - (m + 1)) (by omega) (by assumption) ?_ (by kernel_rfl) (by kernel_rfl)
              try dsimp only [Cu.pick, Cu.rep, Cu.nth]
              refine ⟨m + 1, by rw [Int.natCast_add]; rfl, ⟨by omega⟩, ⟨?_⟩, ⟨(HDi.out.drewN nd).grownB (RB.drewN HRi.out nd) HG6.out⟩, ⟨?_⟩⟩
              · rw [show x.reads reg (m + 1) = bi ++ [x.read (reg + (m : Int))] by rw [HBI.out]; unfold Dv.reads; rw [List.range_succ, List.map_append]; rfl]
                exact HO6.out
              · exact (HFi.out.drewN nd).grown HG6.out (fun k hk => (RB.at HRi.out k hk).1)
            · have hmd : decide ((m : Int) < (n : Int)) = false := decide_eq_false (by omega)
              go_wp2
              go_ret
              have hmn : m = n := by have := HM.out; omega
              refine ⟨_, rfl, ?_, ?_, HF1.out.trans HFi.out⟩
              · rw [show x.doesB reg wl n = x.reads reg n by unfold Dv.doesB; rw [if_neg hl0, if_neg h4], ← hmn, ← HBI.out]
                exact (RB.row HRi.out).base HF1.out.size
              · rw [show x.doesD reg wl n = x by unfold Dv.doesD; rw [if_neg hl0, if_neg h4]]
                exact HDi.out
end Go.Proofs.Ytpolofolibabiaa.Bs
