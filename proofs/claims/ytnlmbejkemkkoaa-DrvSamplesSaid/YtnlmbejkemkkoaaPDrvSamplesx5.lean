import Derived.Test.YtnlmbejkemkkoaaPDrvSamplesx0
import Derived.Test.YtnlmbejkemkkoaaPDrvSamplesx2
import Derived.Test.YtnlmbejkemkkoaaPDrvSamplesx3
import Derived.Test.YtnlmbejkemkkoaaPDrvSamplesx4
namespace Go.Proofs.Ytnlmbejkemkkoaa.PDrvSamples
open Go.RowKit Go.Proofs.YtnlmbejkemkkoaaW.PrintWords Go.Proofs.YtnlmbejkemkkoaaW.PrintLast Go.Proofs.YtnlmbejkemkkoaaW.PrintMore
attribute [local go_sem] max2_int min2_int max_two min_two max_three min_three max_four min_four   -- for this text's walks alone
set_option linter.unusedVariables false
set_option linter.unusedSimpArgs false

/-! ### drv_Take: function 18 -/
theorem take_mk (w : World) : (Instr.makeChan 89 (.int .i64 1)).run Try.prog w = .ok (.chan (some w.heap.size)) (w.alloc (.chan 1 #[] false 0 0 false)) := by
  have h : (Try.prog.info? 27).map (·.bytes) = some 32 := by kernel_rfl
  obtain ⟨i, hi, hb⟩ := Option.map_eq_some_iff.1 h
  simpa using Go.Conc.run_makeChan (P := Try.prog) (w := w) Try.underlying89 hi .i64 1 (by omega) (by rw [hb]; omega)
theorem take_zero (w : World) : (zeroValue 27).run Try.prog w = .ok (.agg #[.int .i64 0, .slice none 0 0]) w := by kernel_rfl
set_option maxHeartbeats 4000000 in
set_option maxRecDepth 100000 in
theorem take_next (k : Nat) (a0_0 a0_1 : Int) (a0_2 : Bool) (a0_3 a0_4 a0_5 : Int) (a0_6 : Bool) (a0_7 a0_8 : Int) (r1 r2 : Int) (r3 : Bool) (r4 r5 r6 : Int) (r7 : Bool) (r8 r9 : Int) (r10 : List (S55)) (a1_0 : Int) (A1_1 : Option Addr) (c1_1 : Nat) (l1_1 : List Int) (n1 n2 : Int) (n3 : List Int) (n4 : Int) (w : World) (hr1_1 : Kd.C (Kd.int .u8) w A1_1 l1_1.length l1_1) (hc1_1 : l1_1.length ≤ c1_1)
  (hn : drv_Next.f a0_0 a0_1 a0_2 a0_3 a0_4 a0_5 a0_6 a0_7 a0_8 = some (n1, n2, n3, n4, true, 0)) (hg : drv_good.f k a0_0 a0_1 a0_2 a0_3 a0_4 a0_5 a0_6 a0_7 a0_8 n1 n2 n3 n4 a1_0 l1_1 = some true) (hrow : ∀ n, ∃ s tx, Instr.findNow (.int .i64) (.int .i64 a0_4) (Dr.tabRows n).toList 0 = some (some (s, .agg #[tx, .func (.func 52) #[] #[]]))) (hc : drv_next.f a0_0 a0_1 a0_2 a0_3 a0_4 0 a0_6 a0_7 a0_8 l1_1 = some (r1, r2, r3, r4, r5, r6, r7, r8, r9, r10)) :
    Calls Try.prog 18 #[.agg #[.int .i64 a0_0, .int .i64 a0_1, .bool a0_2, .int .i64 a0_3, .int .i64 a0_4, .int .i64 a0_5, .bool a0_6, .int .i64 a0_7, .int .i64 a0_8], .agg #[.int .i64 a1_0, .slice A1_1 l1_1.length c1_1]] w fun e w' => ∃ v9_ : Value, e = .returned (.tuple #[.agg #[.int .i64 r1, .int .i64 r2, .bool r3, .int .i64 r4, .int .i64 r5, .int .i64 r6, .bool r7, .int .i64 r8, .int .i64 r9], v9_, .bool false, .int .i64 0]) ∧ Kd.R k55 55 w' w.heap.size (fun _ => True) v9_ r10 ∧ Below w.heap.size w w' := by
  have HR := Aside0.mk hr1_1
  have HC := Aside0.mk hc1_1
  have HN := Aside0.mk hn
  have HG := Aside0.mk hg
  have HCL := Aside0.mk hc
  have HROW := Aside0.mk hrow
  clear hr1_1 hc1_1 hn hg hc hrow
  have hmk := take_mk
  go_enter Try.func18, Try.ntmps18
  go_upto_region 6 with (first | (go_at_call 9; (with_reducible refine (drv_Next.calls _ _ _ _ _ _ _ _ _ _ _ _ _ _ _ _ HN.out).mono ?_); rintro e w1 ⟨sv, rfl, hsv, hb1⟩; obtain ⟨A3, c3, rfl⟩ := Kd.R_slice hsv; have HSV := Aside0.mk hsv; obtain ⟨hD, hA, hN, hB, z1, z2, z3, z4, z5, z6⟩ := Tk.three hb1; have BKD := Aside0.mk hD; have BKA := Aside0.mk hA; have BKN := Aside0.mk hN; have HB1 := Aside0.mk hB; clear hsv hb1 hD hA hN hB; obtain ⟨hd0, hd1, hd2, hd3, hd4, hd5, hd6, hd7, hd8⟩ := Sq.c9 BKD.out; obtain ⟨ha0, ha1⟩ := Sq.c2 BKA.out) | (go_at_call 35; (with_reducible refine (drv_good.calls k _ _ _ _ _ _ _ _ _ _ _ _ _ _ _ _ _ _ _ _ _ (Kd.C_alloc (Kd.C_alloc (Kd.R_reads' HSV.out).2.2 _) _) (Kd.R_reads' HSV.out).2.1 (Kd.C_alloc (Kd.C_alloc (Kd.C_below HR.out HB1.out) _) _) HC.out HG.out).mono ?_); rintro e w2 ⟨rfl, hb2⟩; have BKC := Aside0.mk (blk_below (blk_new (w1.alloc (.cells #[.int .i64 n1, .int .i64 n2, .slice A3 n3.length c3, .int .i64 n4] 31 (0, 0))) (.chan 1 #[] false 0 0 false)) hb2); simp only [World.size_alloc] at BKC; have BD2 := Aside0.mk (blk_below (blk_alloc (blk_alloc BKD.out _) _) hb2); have BA2 := Aside0.mk (blk_below (blk_alloc (blk_alloc BKA.out _) _) hb2); have BN2 := Aside0.mk (blk_below (blk_alloc (blk_alloc BKN.out _) _) hb2); have HB2 := Aside0.mk (below_step (below_alloc (below_alloc HB1.out _) _) hb2); clear hb2; have hg2 := HB1.out.size; have hw2 : w.heap.size ≤ w1.heap.size + 1 := (by omega); clear hg2 hd0 hd1 hd2 hd3 hd4 hd5 hd6 hd7 hd8 ha0 ha1 z1 z2 z3 z4 z5 z6 BKD BKA BKN; obtain ⟨ha0, ha1⟩ := Sq.c2 BA2.out))
  refine Ch.wp_region_from ?_
  refine Ch.FromL.value (v := .chan (some (w1.heap.size + 1))) (w' := w2) rfl rfl ?_
  simp only [Act.put, List.setIfInBounds_toArray, List.set_cons_zero, List.set_cons_succ]
  refine Ch.FromL.value (v := .agg #[.int .i64 a1_0, .slice A1_1 l1_1.length c1_1]) (w' := w2) rfl ?ld ?_
  case ld => go_simp
  simp only [Act.put, List.setIfInBounds_toArray, List.set_cons_zero, List.set_cons_succ]
  refine Ch.FromL.comm (w1 := w2) rfl rfl (Ch.Comm.send (w1.heap.size + 1) 1 #[] 0 0 false (.agg #[.int .i64 a1_0, .slice A1_1 l1_1.length c1_1]) (.tuple #[]) BKC.out (by decide)) ?_
  refine Ch.FromL.ops ?_
  obtain ⟨w3, hw3⟩ : ∃ w3, w3 = ({ w2 with heap := w2.heap.setIfInBounds (w1.heap.size + 1) (.chan 1 (#[].push (.agg #[.int .i64 a1_0, .slice A1_1 l1_1.length c1_1])) false (0 + 1) 0 false) } : World) := ⟨_, rfl⟩
  rw [← hw3]
  have BD3 := Aside0.mk (show w3.heap[w.heap.size]? = _ from hw3 ▸ Ch.chan_blk BKC.out BD2.out (by simp))
  have BN3 := Aside0.mk (show w3.heap[w.heap.size + 1 + 1]? = _ from hw3 ▸ Ch.chan_blk BKC.out BN2.out (by simp))
  have BC3 := Aside0.mk (show w3.heap[w1.heap.size + 1]? = _ from hw3 ▸ Ch.chan_same BKC.out)
  have HB3 := Aside0.mk (show Below w.heap.size w w3 from hw3 ▸ HB2.out.trans (Ch.chan_below hw2))
  clear hw3 BKC BD2 BA2 BN2 HB2 ha0 ha1
  go_upto_region 8 with (fail)
  refine Ch.wp_region_from ?_
  refine Ch.FromL.comm (w1 := w3) rfl ?rn (Ch.Comm.take (w1.heap.size + 1) 1 (#[].push (.agg #[.int .i64 a1_0, .slice A1_1 l1_1.length c1_1])) (0 + 1) 0 false (.agg #[.int .i64 0, .slice none 0 0]) BC3.out (by simp)) ?_
  case rn =>
    simp only [execOp]
    simp [take_zero]
    rfl
  refine Ch.FromL.ops ?_
  simp only [Act.put, List.setIfInBounds_toArray, List.set_cons_zero, List.set_cons_succ]
  obtain ⟨w4, hw4⟩ : ∃ w4, w4 = ({ w3 with heap := w3.heap.setIfInBounds (w1.heap.size + 1) (.chan 1 ((#[].push (.agg #[.int .i64 a1_0, .slice A1_1 l1_1.length c1_1])).extract 1 (#[].push (Value.agg #[.int .i64 a1_0, .slice A1_1 l1_1.length c1_1])).size) false (0 + 1) (0 + 1) false) } : World) := ⟨_, rfl⟩
  rw [← hw4]
  have BD4 := Aside0.mk (show w4.heap[w.heap.size]? = _ from hw4 ▸ Ch.chan_blk BC3.out BD3.out (by simp))
  have BN4 := Aside0.mk (show w4.heap[w.heap.size + 1 + 1]? = _ from hw4 ▸ Ch.chan_blk BC3.out BN3.out (by simp))
  have HB4 := Aside0.mk (show Below w.heap.size w w4 from hw4 ▸ HB3.out.trans (Ch.chan_below hw2))
  have hva : (#[].push (Value.agg #[.int .i64 a1_0, .slice A1_1 l1_1.length c1_1])).getD 0 undef = .agg #[.int .i64 a1_0, .slice A1_1 l1_1.length c1_1] := rfl
  rw [hva]
  have hfd := blk_frozen BD4.out 5
  have hd5 : w4.cell? ⟨w.heap.size, 5, none⟩ = some (.int .i64 a0_5) := (blk_cell BD4.out 5).trans rfl
  have hz4 := blk_lt BD4.out
  clear hw4 BC3 BD3 BN3 HB3 hw2 hmk HSV HG HN HB1
  go_upto_block 0 with (fail)
  go_cut [5, 6] (fun v5 v6 wc => ∃ v9 : Value, v5 = v9 ∧ v6 = .bool false ∧ Aside0 (wc.heap[w.heap.size + 1 + 1]? = some (.cells #[.int .i64 r1, .int .i64 r2, .bool r3, .int .i64 r4, .int .i64 r5, .int .i64 r6, .bool r7, .int .i64 r8, .int .i64 r9] 24 (0, 0))) ∧ Aside0 (Kd.R k55 55 wc w.heap.size (fun _ => True) v9 r10) ∧ Aside0 (Below w.heap.size w wc))
  case first =>
    go_upto_region 12 with (fail)
    obtain ⟨gx, hgx⟩ : ∃ gx, gx = w4.heap.size := ⟨_, rfl⟩
    obtain ⟨w5, hw5⟩ : ∃ w5, w5 = ((w4.setCell ⟨w.heap.size, 5, none⟩ (.int .i64 0)).alloc (.cells #[.int .i64 a1_0, .slice A1_1 l1_1.length c1_1] 27 (0, 0))) := ⟨_, rfl⟩
    have BD5 := Aside0.mk (show w5.heap[w.heap.size]? = some (.cells #[.int .i64 a0_0, .int .i64 a0_1, .bool a0_2, .int .i64 a0_3, .int .i64 a0_4, .int .i64 0, .bool a0_6, .int .i64 a0_7, .int .i64 a0_8] 24 (0, 0)) from hw5 ▸ blk_alloc (blk_put BD4.out 5 _ rfl) _)
    have BN5 := Aside0.mk (show w5.heap[w.heap.size + 1 + 1]? = _ from hw5 ▸ blk_alloc (blk_far BN4.out (show w.heap.size + 1 + 1 ≠ w.heap.size by omega) _) _)
    have BX5 := Aside0.mk (show w5.heap[gx]? = some (.cells #[.int .i64 a1_0, .slice A1_1 l1_1.length c1_1] 27 (0, 0)) from by rw [hw5, hgx]; have := blk_new (w4.setCell ⟨w.heap.size, 5, none⟩ (.int .i64 0)) (.cells #[.int .i64 a1_0, .slice A1_1 l1_1.length c1_1] 27 (0, 0)); simpa [World.setCell] using this)
    have HB5 := Aside0.mk (show Below w.heap.size w w5 from hw5 ▸ below_alloc (below_set HB4.out (Nat.le_refl _)) _)
    have gz3 : w.heap.size + 1 + 1 < gx := hgx ▸ blk_lt BN4.out
    rw [← hw5, ← hgx]
    have hN1 : w.heap.size ≠ w.heap.size + 1 + 1 := by omega
    have hN2 : gx ≠ w.heap.size + 1 + 1 := by omega
    have hGE : w.heap.size ≤ w.heap.size + 1 + 1 := by omega
    have hS5 : (fun w' : World => w'.cell? ⟨w.heap.size, 0, none⟩ = some (.int .i64 a0_0) ∧ w'.cell? ⟨w.heap.size, 1, none⟩ = some (.int .i64 a0_1) ∧ w'.cell? ⟨w.heap.size, 2, none⟩ = some (.bool a0_2) ∧ w'.cell? ⟨w.heap.size, 3, none⟩ = some (.int .i64 a0_3) ∧ w'.cell? ⟨w.heap.size, 4, none⟩ = some (.int .i64 a0_4) ∧ w'.cell? ⟨w.heap.size, 5, none⟩ = some (.int .i64 0) ∧ w'.cell? ⟨w.heap.size, 6, none⟩ = some (.bool a0_6) ∧ w'.cell? ⟨w.heap.size, 7, none⟩ = some (.int .i64 a0_7) ∧ w'.cell? ⟨w.heap.size, 8, none⟩ = some (.int .i64 a0_8) ∧ w'.cell? ⟨gx, 0, none⟩ = some (.int .i64 a1_0) ∧ w'.cell? ⟨gx, 1, none⟩ = some (.slice A1_1 l1_1.length c1_1)) w5.drew := Sq.j9 (blk_drew BD5.out) (Sq.c2 (blk_drew BX5.out))
    have hfl : ∀ (tx : Value) (W : World), (Instr.field 83 (.agg #[tx, .func (.func 52) #[] #[]]) 1).run Try.prog W = .ok (.func (.func 52) #[] #[]) W := fun _ _ => by kernel_rfl
    clear hw5 hgx BD4 BN4 HB4 hfd hd5 hz4 hva gz3
    go_region_held3 (fun w' : World => w'.cell? ⟨w.heap.size, 0, none⟩ = some (.int .i64 a0_0) ∧ w'.cell? ⟨w.heap.size, 1, none⟩ = some (.int .i64 a0_1) ∧ w'.cell? ⟨w.heap.size, 2, none⟩ = some (.bool a0_2) ∧ w'.cell? ⟨w.heap.size, 3, none⟩ = some (.int .i64 a0_3) ∧ w'.cell? ⟨w.heap.size, 4, none⟩ = some (.int .i64 a0_4) ∧ w'.cell? ⟨w.heap.size, 5, none⟩ = some (.int .i64 0) ∧ w'.cell? ⟨w.heap.size, 6, none⟩ = some (.bool a0_6) ∧ w'.cell? ⟨w.heap.size, 7, none⟩ = some (.int .i64 a0_7) ∧ w'.cell? ⟨w.heap.size, 8, none⟩ = some (.int .i64 a0_8) ∧ w'.cell? ⟨gx, 0, none⟩ = some (.int .i64 a1_0) ∧ w'.cell? ⟨gx, 1, none⟩ = some (.slice A1_1 l1_1.length c1_1)) (first | with_reducible assumption | with_reducible exact Tk.keep11s hN1 hN2 (by with_reducible assumption)) (first | (go_at_call 33; ((with_reducible refine (Dr.table_tab _).mono ?_); rintro e' w6 ⟨n6, ht, rfl⟩; have hS6 := Tk.keep11 ht.below hS5; obtain ⟨s6, tx6, hf6⟩ := HROW.out n6; have hlk : (Instr.lookup 85 (.map (some (n6 + 1))) (.int .i64 a0_4) false).run Try.prog w6 = .ok (.agg #[tx6, .func (.func 52) #[] #[]]) w6 := Dr.look_row ht.map a0_4 s6 _ false hf6; clear hf6; have HB6 := Aside0.mk (below_step (below_drew1 HB5.out) ht.below); have BN6 := Aside0.mk (blk_below (blk_drew BN5.out) ht.below); clear ht)) | (go_at_call 52; ((with_reducible refine (drv_next.calls _ _ _ _ _ _ _ _ _ _ _ _ _ _ _ _ _ _ _ _ _ _ _ (Kd.C_below HR.out HB6.out) HC.out HCL.out).mono ?_); rintro e' w7 ⟨v9, rfl, h9, hb7⟩; have hS7 := Tk.keep11 hb7 hS6; have HB7 := Aside0.mk (below_step HB6.out hb7); have BN7 := Aside0.mk (blk_below BN6.out hb7); have H9 := Aside0.mk (Kd.R_lower (h9) HB6.out.size); clear h9 hb7; obtain ⟨hn0, hn1, hn2, hn3, hn4, hn5, hn6, hn7, hn8⟩ := Sq.c9 BN7.out; obtain ⟨hfn0, hfn1, hfn2, hfn3, hfn4, hfn5, hfn6, hfn7, hfn8⟩ := Sq.f9 BN7.out)))
    go_wp2
    go_meet
    case rel => exact ⟨v9, rfl, rfl, ⟨Tk.put9 BN7.out⟩, ⟨Tk.R9 H9.out BN7.out (by decide)⟩, ⟨Tk.below9 HB7.out hGE⟩⟩
  case rest =>
    obtain ⟨v9, rfl, rfl, BN, H9, HB⟩ := hcut
    obtain ⟨hn0, hn1, hn2, hn3, hn4, hn5, hn6, hn7, hn8⟩ := Sq.c9 BN.out
    obtain ⟨hfn0, hfn1, hfn2, hfn3, hfn4, hfn5, hfn6, hfn7, hfn8⟩ := Sq.f9 BN.out
    go_wp2
    refine bodyPost_ret (v := .tuple #[.agg #[.int .i64 r1, .int .i64 r2, .bool r3, .int .i64 r4, .int .i64 r5, .int .i64 r6, .bool r7, .int .i64 r8, .int .i64 r9], u5, .bool false, .int .i64 0]) ?_ rfl ?_
    · refine Ch.results_ctttt (fn := Try.f18) (p := 4) (q := 5) (r := 6) (s := 7) (ty := 24) rfl _ _ (w.heap.size + 1 + 1) 24 #[.int .i64 r1, .int .i64 r2, .bool r3, .int .i64 r4, .int .i64 r5, .int .i64 r6, .bool r7, .int .i64 r8, .int .i64 r9] (0, 0) _ rfl (Tk.put9 BN.out) Try.underlying24 rfl (by kernel_rfl)
    · exact ⟨u5, rfl, Tk.R9 H9.out BN.out (by decide), Tk.below9 HB.out (by omega)⟩
set_option maxHeartbeats 4000000 in
set_option maxRecDepth 100000 in
theorem take_counted (k : Nat) (a0_0 a0_1 : Int) (a0_2 : Bool) (a0_3 a0_4 a0_5 : Int) (a0_6 : Bool) (a0_7 a0_8 : Int) (r1 r2 : Int) (r3 : Bool) (r4 r5 r6 : Int) (r7 : Bool) (r8 r9 : Int) (r10 : List (S55)) (a1_0 : Int) (A1_1 : Option Addr) (c1_1 : Nat) (l1_1 : List Int) (n1 n2 : Int) (n3 : List Int) (n4 : Int) (w : World) (hr1_1 : Kd.C (Kd.int .u8) w A1_1 l1_1.length l1_1) (hc1_1 : l1_1.length ≤ c1_1)
  (hn : drv_Next.f a0_0 a0_1 a0_2 a0_3 a0_4 a0_5 a0_6 a0_7 a0_8 = some (n1, n2, n3, n4, true, 0)) (hg : drv_good.f k a0_0 a0_1 a0_2 a0_3 a0_4 a0_5 a0_6 a0_7 a0_8 n1 n2 n3 n4 a1_0 l1_1 = some true) (hrow : ∀ n, ∃ s tx, Instr.findNow (.int .i64) (.int .i64 a0_4) (Dr.tabRows n).toList 0 = some (some (s, .agg #[tx, .func (.func 55) #[] #[]]))) (hc : drv_counted.f a0_0 a0_1 a0_2 a0_3 a0_4 0 a0_6 a0_7 a0_8 l1_1 = some (r1, r2, r3, r4, r5, r6, r7, r8, r9, r10)) :
    Calls Try.prog 18 #[.agg #[.int .i64 a0_0, .int .i64 a0_1, .bool a0_2, .int .i64 a0_3, .int .i64 a0_4, .int .i64 a0_5, .bool a0_6, .int .i64 a0_7, .int .i64 a0_8], .agg #[.int .i64 a1_0, .slice A1_1 l1_1.length c1_1]] w fun e w' => ∃ v9_ : Value, e = .returned (.tuple #[.agg #[.int .i64 r1, .int .i64 r2, .bool r3, .int .i64 r4, .int .i64 r5, .int .i64 r6, .bool r7, .int .i64 r8, .int .i64 r9], v9_, .bool false, .int .i64 0]) ∧ Kd.R k55 55 w' w.heap.size (fun _ => True) v9_ r10 ∧ Below w.heap.size w w' := by
  have HR := Aside0.mk hr1_1
  have HC := Aside0.mk hc1_1
  have HN := Aside0.mk hn
  have HG := Aside0.mk hg
  have HCL := Aside0.mk hc
  have HROW := Aside0.mk hrow
  clear hr1_1 hc1_1 hn hg hc hrow
  have hmk := take_mk
  go_enter Try.func18, Try.ntmps18
  go_upto_region 6 with (first | (go_at_call 9; (with_reducible refine (drv_Next.calls _ _ _ _ _ _ _ _ _ _ _ _ _ _ _ _ HN.out).mono ?_); rintro e w1 ⟨sv, rfl, hsv, hb1⟩; obtain ⟨A3, c3, rfl⟩ := Kd.R_slice hsv; have HSV := Aside0.mk hsv; obtain ⟨hD, hA, hN, hB, z1, z2, z3, z4, z5, z6⟩ := Tk.three hb1; have BKD := Aside0.mk hD; have BKA := Aside0.mk hA; have BKN := Aside0.mk hN; have HB1 := Aside0.mk hB; clear hsv hb1 hD hA hN hB; obtain ⟨hd0, hd1, hd2, hd3, hd4, hd5, hd6, hd7, hd8⟩ := Sq.c9 BKD.out; obtain ⟨ha0, ha1⟩ := Sq.c2 BKA.out) | (go_at_call 35; (with_reducible refine (drv_good.calls k _ _ _ _ _ _ _ _ _ _ _ _ _ _ _ _ _ _ _ _ _ (Kd.C_alloc (Kd.C_alloc (Kd.R_reads' HSV.out).2.2 _) _) (Kd.R_reads' HSV.out).2.1 (Kd.C_alloc (Kd.C_alloc (Kd.C_below HR.out HB1.out) _) _) HC.out HG.out).mono ?_); rintro e w2 ⟨rfl, hb2⟩; have BKC := Aside0.mk (blk_below (blk_new (w1.alloc (.cells #[.int .i64 n1, .int .i64 n2, .slice A3 n3.length c3, .int .i64 n4] 31 (0, 0))) (.chan 1 #[] false 0 0 false)) hb2); simp only [World.size_alloc] at BKC; have BD2 := Aside0.mk (blk_below (blk_alloc (blk_alloc BKD.out _) _) hb2); have BA2 := Aside0.mk (blk_below (blk_alloc (blk_alloc BKA.out _) _) hb2); have BN2 := Aside0.mk (blk_below (blk_alloc (blk_alloc BKN.out _) _) hb2); have HB2 := Aside0.mk (below_step (below_alloc (below_alloc HB1.out _) _) hb2); clear hb2; have hg2 := HB1.out.size; have hw2 : w.heap.size ≤ w1.heap.size + 1 := (by omega); clear hg2 hd0 hd1 hd2 hd3 hd4 hd5 hd6 hd7 hd8 ha0 ha1 z1 z2 z3 z4 z5 z6 BKD BKA BKN; obtain ⟨ha0, ha1⟩ := Sq.c2 BA2.out))
  refine Ch.wp_region_from ?_
  refine Ch.FromL.value (v := .chan (some (w1.heap.size + 1))) (w' := w2) rfl rfl ?_
  simp only [Act.put, List.setIfInBounds_toArray, List.set_cons_zero, List.set_cons_succ]
  refine Ch.FromL.value (v := .agg #[.int .i64 a1_0, .slice A1_1 l1_1.length c1_1]) (w' := w2) rfl ?ld ?_
  case ld => go_simp
  simp only [Act.put, List.setIfInBounds_toArray, List.set_cons_zero, List.set_cons_succ]
  refine Ch.FromL.comm (w1 := w2) rfl rfl (Ch.Comm.send (w1.heap.size + 1) 1 #[] 0 0 false (.agg #[.int .i64 a1_0, .slice A1_1 l1_1.length c1_1]) (.tuple #[]) BKC.out (by decide)) ?_
  refine Ch.FromL.ops ?_
  obtain ⟨w3, hw3⟩ : ∃ w3, w3 = ({ w2 with heap := w2.heap.setIfInBounds (w1.heap.size + 1) (.chan 1 (#[].push (.agg #[.int .i64 a1_0, .slice A1_1 l1_1.length c1_1])) false (0 + 1) 0 false) } : World) := ⟨_, rfl⟩
  rw [← hw3]
  have BD3 := Aside0.mk (show w3.heap[w.heap.size]? = _ from hw3 ▸ Ch.chan_blk BKC.out BD2.out (by simp))
  have BN3 := Aside0.mk (show w3.heap[w.heap.size + 1 + 1]? = _ from hw3 ▸ Ch.chan_blk BKC.out BN2.out (by simp))
  have BC3 := Aside0.mk (show w3.heap[w1.heap.size + 1]? = _ from hw3 ▸ Ch.chan_same BKC.out)
  have HB3 := Aside0.mk (show Below w.heap.size w w3 from hw3 ▸ HB2.out.trans (Ch.chan_below hw2))
  clear hw3 BKC BD2 BA2 BN2 HB2 ha0 ha1
  go_upto_region 8 with (fail)
  refine Ch.wp_region_from ?_
  refine Ch.FromL.comm (w1 := w3) rfl ?rn (Ch.Comm.take (w1.heap.size + 1) 1 (#[].push (.agg #[.int .i64 a1_0, .slice A1_1 l1_1.length c1_1])) (0 + 1) 0 false (.agg #[.int .i64 0, .slice none 0 0]) BC3.out (by simp)) ?_
  case rn =>
    simp only [execOp]
    simp [take_zero]
    rfl
  refine Ch.FromL.ops ?_
  simp only [Act.put, List.setIfInBounds_toArray, List.set_cons_zero, List.set_cons_succ]
  obtain ⟨w4, hw4⟩ : ∃ w4, w4 = ({ w3 with heap := w3.heap.setIfInBounds (w1.heap.size + 1) (.chan 1 ((#[].push (.agg #[.int .i64 a1_0, .slice A1_1 l1_1.length c1_1])).extract 1 (#[].push (Value.agg #[.int .i64 a1_0, .slice A1_1 l1_1.length c1_1])).size) false (0 + 1) (0 + 1) false) } : World) := ⟨_, rfl⟩
  rw [← hw4]
  have BD4 := Aside0.mk (show w4.heap[w.heap.size]? = _ from hw4 ▸ Ch.chan_blk BC3.out BD3.out (by simp))
  have BN4 := Aside0.mk (show w4.heap[w.heap.size + 1 + 1]? = _ from hw4 ▸ Ch.chan_blk BC3.out BN3.out (by simp))
  have HB4 := Aside0.mk (show Below w.heap.size w w4 from hw4 ▸ HB3.out.trans (Ch.chan_below hw2))
  have hva : (#[].push (Value.agg #[.int .i64 a1_0, .slice A1_1 l1_1.length c1_1])).getD 0 undef = .agg #[.int .i64 a1_0, .slice A1_1 l1_1.length c1_1] := rfl
  rw [hva]
  have hfd := blk_frozen BD4.out 5
  have hd5 : w4.cell? ⟨w.heap.size, 5, none⟩ = some (.int .i64 a0_5) := (blk_cell BD4.out 5).trans rfl
  have hz4 := blk_lt BD4.out
  clear hw4 BC3 BD3 BN3 HB3 hw2 hmk HSV HG HN HB1
  go_upto_block 0 with (fail)
  go_cut [5, 6] (fun v5 v6 wc => ∃ v9 : Value, v5 = v9 ∧ v6 = .bool false ∧ Aside0 (wc.heap[w.heap.size + 1 + 1]? = some (.cells #[.int .i64 r1, .int .i64 r2, .bool r3, .int .i64 r4, .int .i64 r5, .int .i64 r6, .bool r7, .int .i64 r8, .int .i64 r9] 24 (0, 0))) ∧ Aside0 (Kd.R k55 55 wc w.heap.size (fun _ => True) v9 r10) ∧ Aside0 (Below w.heap.size w wc))
  case first =>
    go_upto_region 12 with (fail)
    obtain ⟨gx, hgx⟩ : ∃ gx, gx = w4.heap.size := ⟨_, rfl⟩
    obtain ⟨w5, hw5⟩ : ∃ w5, w5 = ((w4.setCell ⟨w.heap.size, 5, none⟩ (.int .i64 0)).alloc (.cells #[.int .i64 a1_0, .slice A1_1 l1_1.length c1_1] 27 (0, 0))) := ⟨_, rfl⟩
    have BD5 := Aside0.mk (show w5.heap[w.heap.size]? = some (.cells #[.int .i64 a0_0, .int .i64 a0_1, .bool a0_2, .int .i64 a0_3, .int .i64 a0_4, .int .i64 0, .bool a0_6, .int .i64 a0_7, .int .i64 a0_8] 24 (0, 0)) from hw5 ▸ blk_alloc (blk_put BD4.out 5 _ rfl) _)
    have BN5 := Aside0.mk (show w5.heap[w.heap.size + 1 + 1]? = _ from hw5 ▸ blk_alloc (blk_far BN4.out (show w.heap.size + 1 + 1 ≠ w.heap.size by omega) _) _)
    have BX5 := Aside0.mk (show w5.heap[gx]? = some (.cells #[.int .i64 a1_0, .slice A1_1 l1_1.length c1_1] 27 (0, 0)) from by rw [hw5, hgx]; have := blk_new (w4.setCell ⟨w.heap.size, 5, none⟩ (.int .i64 0)) (.cells #[.int .i64 a1_0, .slice A1_1 l1_1.length c1_1] 27 (0, 0)); simpa [World.setCell] using this)
    have HB5 := Aside0.mk (show Below w.heap.size w w5 from hw5 ▸ below_alloc (below_set HB4.out (Nat.le_refl _)) _)
    have gz3 : w.heap.size + 1 + 1 < gx := hgx ▸ blk_lt BN4.out
    rw [← hw5, ← hgx]
    have hN1 : w.heap.size ≠ w.heap.size + 1 + 1 := by omega
    have hN2 : gx ≠ w.heap.size + 1 + 1 := by omega
    have hGE : w.heap.size ≤ w.heap.size + 1 + 1 := by omega
    have hS5 : (fun w' : World => w'.cell? ⟨w.heap.size, 0, none⟩ = some (.int .i64 a0_0) ∧ w'.cell? ⟨w.heap.size, 1, none⟩ = some (.int .i64 a0_1) ∧ w'.cell? ⟨w.heap.size, 2, none⟩ = some (.bool a0_2) ∧ w'.cell? ⟨w.heap.size, 3, none⟩ = some (.int .i64 a0_3) ∧ w'.cell? ⟨w.heap.size, 4, none⟩ = some (.int .i64 a0_4) ∧ w'.cell? ⟨w.heap.size, 5, none⟩ = some (.int .i64 0) ∧ w'.cell? ⟨w.heap.size, 6, none⟩ = some (.bool a0_6) ∧ w'.cell? ⟨w.heap.size, 7, none⟩ = some (.int .i64 a0_7) ∧ w'.cell? ⟨w.heap.size, 8, none⟩ = some (.int .i64 a0_8) ∧ w'.cell? ⟨gx, 0, none⟩ = some (.int .i64 a1_0) ∧ w'.cell? ⟨gx, 1, none⟩ = some (.slice A1_1 l1_1.length c1_1)) w5.drew := Sq.j9 (blk_drew BD5.out) (Sq.c2 (blk_drew BX5.out))
    have hfl : ∀ (tx : Value) (W : World), (Instr.field 83 (.agg #[tx, .func (.func 55) #[] #[]]) 1).run Try.prog W = .ok (.func (.func 55) #[] #[]) W := fun _ _ => by kernel_rfl
    clear hw5 hgx BD4 BN4 HB4 hfd hd5 hz4 hva gz3
    go_region_held3 (fun w' : World => w'.cell? ⟨w.heap.size, 0, none⟩ = some (.int .i64 a0_0) ∧ w'.cell? ⟨w.heap.size, 1, none⟩ = some (.int .i64 a0_1) ∧ w'.cell? ⟨w.heap.size, 2, none⟩ = some (.bool a0_2) ∧ w'.cell? ⟨w.heap.size, 3, none⟩ = some (.int .i64 a0_3) ∧ w'.cell? ⟨w.heap.size, 4, none⟩ = some (.int .i64 a0_4) ∧ w'.cell? ⟨w.heap.size, 5, none⟩ = some (.int .i64 0) ∧ w'.cell? ⟨w.heap.size, 6, none⟩ = some (.bool a0_6) ∧ w'.cell? ⟨w.heap.size, 7, none⟩ = some (.int .i64 a0_7) ∧ w'.cell? ⟨w.heap.size, 8, none⟩ = some (.int .i64 a0_8) ∧ w'.cell? ⟨gx, 0, none⟩ = some (.int .i64 a1_0) ∧ w'.cell? ⟨gx, 1, none⟩ = some (.slice A1_1 l1_1.length c1_1)) (first | with_reducible assumption | with_reducible exact Tk.keep11s hN1 hN2 (by with_reducible assumption)) (first | (go_at_call 33; ((with_reducible refine (Dr.table_tab _).mono ?_); rintro e' w6 ⟨n6, ht, rfl⟩; have hS6 := Tk.keep11 ht.below hS5; obtain ⟨s6, tx6, hf6⟩ := HROW.out n6; have hlk : (Instr.lookup 85 (.map (some (n6 + 1))) (.int .i64 a0_4) false).run Try.prog w6 = .ok (.agg #[tx6, .func (.func 55) #[] #[]]) w6 := Dr.look_row ht.map a0_4 s6 _ false hf6; clear hf6; have HB6 := Aside0.mk (below_step (below_drew1 HB5.out) ht.below); have BN6 := Aside0.mk (blk_below (blk_drew BN5.out) ht.below); clear ht)) | (go_at_call 55; ((with_reducible refine (drv_counted.calls _ _ _ _ _ _ _ _ _ _ _ _ _ _ _ _ _ _ _ _ _ _ _ (Kd.C_below HR.out HB6.out) HC.out HCL.out).mono ?_); rintro e' w7 ⟨v9, rfl, h9, hb7⟩; have hS7 := Tk.keep11 hb7 hS6; have HB7 := Aside0.mk (below_step HB6.out hb7); have BN7 := Aside0.mk (blk_below BN6.out hb7); have H9 := Aside0.mk (Kd.R_lower (h9) HB6.out.size); clear h9 hb7; obtain ⟨hn0, hn1, hn2, hn3, hn4, hn5, hn6, hn7, hn8⟩ := Sq.c9 BN7.out; obtain ⟨hfn0, hfn1, hfn2, hfn3, hfn4, hfn5, hfn6, hfn7, hfn8⟩ := Sq.f9 BN7.out)))
    go_wp2
    go_meet
    case rel => exact ⟨v9, rfl, rfl, ⟨Tk.put9 BN7.out⟩, ⟨Tk.R9 H9.out BN7.out (by decide)⟩, ⟨Tk.below9 HB7.out hGE⟩⟩
  case rest =>
    obtain ⟨v9, rfl, rfl, BN, H9, HB⟩ := hcut
    obtain ⟨hn0, hn1, hn2, hn3, hn4, hn5, hn6, hn7, hn8⟩ := Sq.c9 BN.out
    obtain ⟨hfn0, hfn1, hfn2, hfn3, hfn4, hfn5, hfn6, hfn7, hfn8⟩ := Sq.f9 BN.out
    go_wp2
    refine bodyPost_ret (v := .tuple #[.agg #[.int .i64 r1, .int .i64 r2, .bool r3, .int .i64 r4, .int .i64 r5, .int .i64 r6, .bool r7, .int .i64 r8, .int .i64 r9], u5, .bool false, .int .i64 0]) ?_ rfl ?_
    · refine Ch.results_ctttt (fn := Try.f18) (p := 4) (q := 5) (r := 6) (s := 7) (ty := 24) rfl _ _ (w.heap.size + 1 + 1) 24 #[.int .i64 r1, .int .i64 r2, .bool r3, .int .i64 r4, .int .i64 r5, .int .i64 r6, .bool r7, .int .i64 r8, .int .i64 r9] (0, 0) _ rfl (Tk.put9 BN.out) Try.underlying24 rfl (by kernel_rfl)
    · exact ⟨u5, rfl, Tk.R9 H9.out BN.out (by decide), Tk.below9 HB.out (by omega)⟩
set_option maxHeartbeats 4000000 in
set_option maxRecDepth 100000 in
theorem take_again (k : Nat) (a0_0 a0_1 : Int) (a0_2 : Bool) (a0_3 a0_4 a0_5 : Int) (a0_6 : Bool) (a0_7 a0_8 : Int) (r1 r2 : Int) (r3 : Bool) (r4 r5 r6 : Int) (r7 : Bool) (r8 r9 : Int) (r10 : List (S55)) (a1_0 : Int) (A1_1 : Option Addr) (c1_1 : Nat) (l1_1 : List Int) (n1 n2 : Int) (n3 : List Int) (n4 : Int) (w : World) (hr1_1 : Kd.C (Kd.int .u8) w A1_1 l1_1.length l1_1) (hc1_1 : l1_1.length ≤ c1_1)
  (hn : drv_Next.f a0_0 a0_1 a0_2 a0_3 a0_4 a0_5 a0_6 a0_7 a0_8 = some (n1, n2, n3, n4, true, 0)) (hg : drv_good.f k a0_0 a0_1 a0_2 a0_3 a0_4 a0_5 a0_6 a0_7 a0_8 n1 n2 n3 n4 a1_0 l1_1 = some true) (hrow : ∀ n, ∃ s tx, Instr.findNow (.int .i64) (.int .i64 a0_4) (Dr.tabRows n).toList 0 = some (some (s, .agg #[tx, .func (.func 59) #[] #[]]))) (hc : drv_again.f a0_0 a0_1 a0_2 a0_3 a0_4 0 a0_6 a0_7 a0_8 l1_1 = some (r1, r2, r3, r4, r5, r6, r7, r8, r9, r10)) :
    Calls Try.prog 18 #[.agg #[.int .i64 a0_0, .int .i64 a0_1, .bool a0_2, .int .i64 a0_3, .int .i64 a0_4, .int .i64 a0_5, .bool a0_6, .int .i64 a0_7, .int .i64 a0_8], .agg #[.int .i64 a1_0, .slice A1_1 l1_1.length c1_1]] w fun e w' => ∃ v9_ : Value, e = .returned (.tuple #[.agg #[.int .i64 r1, .int .i64 r2, .bool r3, .int .i64 r4, .int .i64 r5, .int .i64 r6, .bool r7, .int .i64 r8, .int .i64 r9], v9_, .bool false, .int .i64 0]) ∧ Kd.R k55 55 w' w.heap.size (fun _ => True) v9_ r10 ∧ Below w.heap.size w w' := by
  have HR := Aside0.mk hr1_1
  have HC := Aside0.mk hc1_1
  have HN := Aside0.mk hn
  have HG := Aside0.mk hg
  have HCL := Aside0.mk hc
  have HROW := Aside0.mk hrow
  clear hr1_1 hc1_1 hn hg hc hrow
  have hmk := take_mk
  go_enter Try.func18, Try.ntmps18
  go_upto_region 6 with (first | (go_at_call 9; (with_reducible refine (drv_Next.calls _ _ _ _ _ _ _ _ _ _ _ _ _ _ _ _ HN.out).mono ?_); rintro e w1 ⟨sv, rfl, hsv, hb1⟩; obtain ⟨A3, c3, rfl⟩ := Kd.R_slice hsv; have HSV := Aside0.mk hsv; obtain ⟨hD, hA, hN, hB, z1, z2, z3, z4, z5, z6⟩ := Tk.three hb1; have BKD := Aside0.mk hD; have BKA := Aside0.mk hA; have BKN := Aside0.mk hN; have HB1 := Aside0.mk hB; clear hsv hb1 hD hA hN hB; obtain ⟨hd0, hd1, hd2, hd3, hd4, hd5, hd6, hd7, hd8⟩ := Sq.c9 BKD.out; obtain ⟨ha0, ha1⟩ := Sq.c2 BKA.out) | (go_at_call 35; (with_reducible refine (drv_good.calls k _ _ _ _ _ _ _ _ _ _ _ _ _ _ _ _ _ _ _ _ _ (Kd.C_alloc (Kd.C_alloc (Kd.R_reads' HSV.out).2.2 _) _) (Kd.R_reads' HSV.out).2.1 (Kd.C_alloc (Kd.C_alloc (Kd.C_below HR.out HB1.out) _) _) HC.out HG.out).mono ?_); rintro e w2 ⟨rfl, hb2⟩; have BKC := Aside0.mk (blk_below (blk_new (w1.alloc (.cells #[.int .i64 n1, .int .i64 n2, .slice A3 n3.length c3, .int .i64 n4] 31 (0, 0))) (.chan 1 #[] false 0 0 false)) hb2); simp only [World.size_alloc] at BKC; have BD2 := Aside0.mk (blk_below (blk_alloc (blk_alloc BKD.out _) _) hb2); have BA2 := Aside0.mk (blk_below (blk_alloc (blk_alloc BKA.out _) _) hb2); have BN2 := Aside0.mk (blk_below (blk_alloc (blk_alloc BKN.out _) _) hb2); have HB2 := Aside0.mk (below_step (below_alloc (below_alloc HB1.out _) _) hb2); clear hb2; have hg2 := HB1.out.size; have hw2 : w.heap.size ≤ w1.heap.size + 1 := (by omega); clear hg2 hd0 hd1 hd2 hd3 hd4 hd5 hd6 hd7 hd8 ha0 ha1 z1 z2 z3 z4 z5 z6 BKD BKA BKN; obtain ⟨ha0, ha1⟩ := Sq.c2 BA2.out))
  refine Ch.wp_region_from ?_
  refine Ch.FromL.value (v := .chan (some (w1.heap.size + 1))) (w' := w2) rfl rfl ?_
  simp only [Act.put, List.setIfInBounds_toArray, List.set_cons_zero, List.set_cons_succ]
  refine Ch.FromL.value (v := .agg #[.int .i64 a1_0, .slice A1_1 l1_1.length c1_1]) (w' := w2) rfl ?ld ?_
  case ld => go_simp
  simp only [Act.put, List.setIfInBounds_toArray, List.set_cons_zero, List.set_cons_succ]
  refine Ch.FromL.comm (w1 := w2) rfl rfl (Ch.Comm.send (w1.heap.size + 1) 1 #[] 0 0 false (.agg #[.int .i64 a1_0, .slice A1_1 l1_1.length c1_1]) (.tuple #[]) BKC.out (by decide)) ?_
  refine Ch.FromL.ops ?_
  obtain ⟨w3, hw3⟩ : ∃ w3, w3 = ({ w2 with heap := w2.heap.setIfInBounds (w1.heap.size + 1) (.chan 1 (#[].push (.agg #[.int .i64 a1_0, .slice A1_1 l1_1.length c1_1])) false (0 + 1) 0 false) } : World) := ⟨_, rfl⟩
  rw [← hw3]
  have BD3 := Aside0.mk (show w3.heap[w.heap.size]? = _ from hw3 ▸ Ch.chan_blk BKC.out BD2.out (by simp))
  have BN3 := Aside0.mk (show w3.heap[w.heap.size + 1 + 1]? = _ from hw3 ▸ Ch.chan_blk BKC.out BN2.out (by simp))
  have BC3 := Aside0.mk (show w3.heap[w1.heap.size + 1]? = _ from hw3 ▸ Ch.chan_same BKC.out)
  have HB3 := Aside0.mk (show Below w.heap.size w w3 from hw3 ▸ HB2.out.trans (Ch.chan_below hw2))
  clear hw3 BKC BD2 BA2 BN2 HB2 ha0 ha1
  go_upto_region 8 with (fail)
  refine Ch.wp_region_from ?_
  refine Ch.FromL.comm (w1 := w3) rfl ?rn (Ch.Comm.take (w1.heap.size + 1) 1 (#[].push (.agg #[.int .i64 a1_0, .slice A1_1 l1_1.length c1_1])) (0 + 1) 0 false (.agg #[.int .i64 0, .slice none 0 0]) BC3.out (by simp)) ?_
  case rn =>
    simp only [execOp]
    simp [take_zero]
    rfl
  refine Ch.FromL.ops ?_
  simp only [Act.put, List.setIfInBounds_toArray, List.set_cons_zero, List.set_cons_succ]
  obtain ⟨w4, hw4⟩ : ∃ w4, w4 = ({ w3 with heap := w3.heap.setIfInBounds (w1.heap.size + 1) (.chan 1 ((#[].push (.agg #[.int .i64 a1_0, .slice A1_1 l1_1.length c1_1])).extract 1 (#[].push (Value.agg #[.int .i64 a1_0, .slice A1_1 l1_1.length c1_1])).size) false (0 + 1) (0 + 1) false) } : World) := ⟨_, rfl⟩
  rw [← hw4]
  have BD4 := Aside0.mk (show w4.heap[w.heap.size]? = _ from hw4 ▸ Ch.chan_blk BC3.out BD3.out (by simp))
  have BN4 := Aside0.mk (show w4.heap[w.heap.size + 1 + 1]? = _ from hw4 ▸ Ch.chan_blk BC3.out BN3.out (by simp))
  have HB4 := Aside0.mk (show Below w.heap.size w w4 from hw4 ▸ HB3.out.trans (Ch.chan_below hw2))
  have hva : (#[].push (Value.agg #[.int .i64 a1_0, .slice A1_1 l1_1.length c1_1])).getD 0 undef = .agg #[.int .i64 a1_0, .slice A1_1 l1_1.length c1_1] := rfl
  rw [hva]
  have hfd := blk_frozen BD4.out 5
  have hd5 : w4.cell? ⟨w.heap.size, 5, none⟩ = some (.int .i64 a0_5) := (blk_cell BD4.out 5).trans rfl
  have hz4 := blk_lt BD4.out
  clear hw4 BC3 BD3 BN3 HB3 hw2 hmk HSV HG HN HB1
  go_upto_block 0 with (fail)
  go_cut [5, 6] (fun v5 v6 wc => ∃ v9 : Value, v5 = v9 ∧ v6 = .bool false ∧ Aside0 (wc.heap[w.heap.size + 1 + 1]? = some (.cells #[.int .i64 r1, .int .i64 r2, .bool r3, .int .i64 r4, .int .i64 r5, .int .i64 r6, .bool r7, .int .i64 r8, .int .i64 r9] 24 (0, 0))) ∧ Aside0 (Kd.R k55 55 wc w.heap.size (fun _ => True) v9 r10) ∧ Aside0 (Below w.heap.size w wc))
  case first =>
    go_upto_region 12 with (fail)
    obtain ⟨gx, hgx⟩ : ∃ gx, gx = w4.heap.size := ⟨_, rfl⟩
    obtain ⟨w5, hw5⟩ : ∃ w5, w5 = ((w4.setCell ⟨w.heap.size, 5, none⟩ (.int .i64 0)).alloc (.cells #[.int .i64 a1_0, .slice A1_1 l1_1.length c1_1] 27 (0, 0))) := ⟨_, rfl⟩
    have BD5 := Aside0.mk (show w5.heap[w.heap.size]? = some (.cells #[.int .i64 a0_0, .int .i64 a0_1, .bool a0_2, .int .i64 a0_3, .int .i64 a0_4, .int .i64 0, .bool a0_6, .int .i64 a0_7, .int .i64 a0_8] 24 (0, 0)) from hw5 ▸ blk_alloc (blk_put BD4.out 5 _ rfl) _)
    have BN5 := Aside0.mk (show w5.heap[w.heap.size + 1 + 1]? = _ from hw5 ▸ blk_alloc (blk_far BN4.out (show w.heap.size + 1 + 1 ≠ w.heap.size by omega) _) _)
    have BX5 := Aside0.mk (show w5.heap[gx]? = some (.cells #[.int .i64 a1_0, .slice A1_1 l1_1.length c1_1] 27 (0, 0)) from by rw [hw5, hgx]; have := blk_new (w4.setCell ⟨w.heap.size, 5, none⟩ (.int .i64 0)) (.cells #[.int .i64 a1_0, .slice A1_1 l1_1.length c1_1] 27 (0, 0)); simpa [World.setCell] using this)
    have HB5 := Aside0.mk (show Below w.heap.size w w5 from hw5 ▸ below_alloc (below_set HB4.out (Nat.le_refl _)) _)
    have gz3 : w.heap.size + 1 + 1 < gx := hgx ▸ blk_lt BN4.out
    rw [← hw5, ← hgx]
    have hN1 : w.heap.size ≠ w.heap.size + 1 + 1 := by omega
    have hN2 : gx ≠ w.heap.size + 1 + 1 := by omega
    have hGE : w.heap.size ≤ w.heap.size + 1 + 1 := by omega
    have hS5 : (fun w' : World => w'.cell? ⟨w.heap.size, 0, none⟩ = some (.int .i64 a0_0) ∧ w'.cell? ⟨w.heap.size, 1, none⟩ = some (.int .i64 a0_1) ∧ w'.cell? ⟨w.heap.size, 2, none⟩ = some (.bool a0_2) ∧ w'.cell? ⟨w.heap.size, 3, none⟩ = some (.int .i64 a0_3) ∧ w'.cell? ⟨w.heap.size, 4, none⟩ = some (.int .i64 a0_4) ∧ w'.cell? ⟨w.heap.size, 5, none⟩ = some (.int .i64 0) ∧ w'.cell? ⟨w.heap.size, 6, none⟩ = some (.bool a0_6) ∧ w'.cell? ⟨w.heap.size, 7, none⟩ = some (.int .i64 a0_7) ∧ w'.cell? ⟨w.heap.size, 8, none⟩ = some (.int .i64 a0_8) ∧ w'.cell? ⟨gx, 0, none⟩ = some (.int .i64 a1_0) ∧ w'.cell? ⟨gx, 1, none⟩ = some (.slice A1_1 l1_1.length c1_1)) w5.drew := Sq.j9 (blk_drew BD5.out) (Sq.c2 (blk_drew BX5.out))
    have hfl : ∀ (tx : Value) (W : World), (Instr.field 83 (.agg #[tx, .func (.func 59) #[] #[]]) 1).run Try.prog W = .ok (.func (.func 59) #[] #[]) W := fun _ _ => by kernel_rfl
    clear hw5 hgx BD4 BN4 HB4 hfd hd5 hz4 hva gz3
    go_region_held3 (fun w' : World => w'.cell? ⟨w.heap.size, 0, none⟩ = some (.int .i64 a0_0) ∧ w'.cell? ⟨w.heap.size, 1, none⟩ = some (.int .i64 a0_1) ∧ w'.cell? ⟨w.heap.size, 2, none⟩ = some (.bool a0_2) ∧ w'.cell? ⟨w.heap.size, 3, none⟩ = some (.int .i64 a0_3) ∧ w'.cell? ⟨w.heap.size, 4, none⟩ = some (.int .i64 a0_4) ∧ w'.cell? ⟨w.heap.size, 5, none⟩ = some (.int .i64 0) ∧ w'.cell? ⟨w.heap.size, 6, none⟩ = some (.bool a0_6) ∧ w'.cell? ⟨w.heap.size, 7, none⟩ = some (.int .i64 a0_7) ∧ w'.cell? ⟨w.heap.size, 8, none⟩ = some (.int .i64 a0_8) ∧ w'.cell? ⟨gx, 0, none⟩ = some (.int .i64 a1_0) ∧ w'.cell? ⟨gx, 1, none⟩ = some (.slice A1_1 l1_1.length c1_1)) (first | with_reducible assumption | with_reducible exact Tk.keep11s hN1 hN2 (by with_reducible assumption)) (first | (go_at_call 33; ((with_reducible refine (Dr.table_tab _).mono ?_); rintro e' w6 ⟨n6, ht, rfl⟩; have hS6 := Tk.keep11 ht.below hS5; obtain ⟨s6, tx6, hf6⟩ := HROW.out n6; have hlk : (Instr.lookup 85 (.map (some (n6 + 1))) (.int .i64 a0_4) false).run Try.prog w6 = .ok (.agg #[tx6, .func (.func 59) #[] #[]]) w6 := Dr.look_row ht.map a0_4 s6 _ false hf6; clear hf6; have HB6 := Aside0.mk (below_step (below_drew1 HB5.out) ht.below); have BN6 := Aside0.mk (blk_below (blk_drew BN5.out) ht.below); clear ht)) | (go_at_call 59; ((with_reducible refine (drv_again.calls _ _ _ _ _ _ _ _ _ _ _ _ _ _ _ _ _ _ _ _ _ _ _ (Kd.C_below HR.out HB6.out) HC.out HCL.out).mono ?_); rintro e' w7 ⟨v9, rfl, h9, hb7⟩; have hS7 := Tk.keep11 hb7 hS6; have HB7 := Aside0.mk (below_step HB6.out hb7); have BN7 := Aside0.mk (blk_below BN6.out hb7); have H9 := Aside0.mk (Kd.R_lower (h9) HB6.out.size); clear h9 hb7; obtain ⟨hn0, hn1, hn2, hn3, hn4, hn5, hn6, hn7, hn8⟩ := Sq.c9 BN7.out; obtain ⟨hfn0, hfn1, hfn2, hfn3, hfn4, hfn5, hfn6, hfn7, hfn8⟩ := Sq.f9 BN7.out)))
    go_wp2
    go_meet
    case rel => exact ⟨v9, rfl, rfl, ⟨Tk.put9 BN7.out⟩, ⟨Tk.R9 H9.out BN7.out (by decide)⟩, ⟨Tk.below9 HB7.out hGE⟩⟩
  case rest =>
    obtain ⟨v9, rfl, rfl, BN, H9, HB⟩ := hcut
    obtain ⟨hn0, hn1, hn2, hn3, hn4, hn5, hn6, hn7, hn8⟩ := Sq.c9 BN.out
    obtain ⟨hfn0, hfn1, hfn2, hfn3, hfn4, hfn5, hfn6, hfn7, hfn8⟩ := Sq.f9 BN.out
    go_wp2
    refine bodyPost_ret (v := .tuple #[.agg #[.int .i64 r1, .int .i64 r2, .bool r3, .int .i64 r4, .int .i64 r5, .int .i64 r6, .bool r7, .int .i64 r8, .int .i64 r9], u5, .bool false, .int .i64 0]) ?_ rfl ?_
    · refine Ch.results_ctttt (fn := Try.f18) (p := 4) (q := 5) (r := 6) (s := 7) (ty := 24) rfl _ _ (w.heap.size + 1 + 1) 24 #[.int .i64 r1, .int .i64 r2, .bool r3, .int .i64 r4, .int .i64 r5, .int .i64 r6, .bool r7, .int .i64 r8, .int .i64 r9] (0, 0) _ rfl (Tk.put9 BN.out) Try.underlying24 rfl (by kernel_rfl)
    · exact ⟨u5, rfl, Tk.R9 H9.out BN.out (by decide), Tk.below9 HB.out (by omega)⟩
set_option maxHeartbeats 4000000 in
set_option maxRecDepth 100000 in
theorem take_samples (k : Nat) (a0_0 a0_1 : Int) (a0_2 : Bool) (a0_3 a0_4 a0_5 : Int) (a0_6 : Bool) (a0_7 a0_8 : Int) (r1 r2 : Int) (r3 : Bool) (r4 r5 r6 : Int) (r7 : Bool) (r8 r9 : Int) (r10 : List (S55)) (a1_0 : Int) (A1_1 : Option Addr) (c1_1 : Nat) (l1_1 : List Int) (n1 n2 : Int) (n3 : List Int) (n4 : Int) (w : World) (hr1_1 : Kd.C (Kd.int .u8) w A1_1 l1_1.length l1_1) (hc1_1 : l1_1.length ≤ c1_1)
  (hn : drv_Next.f a0_0 a0_1 a0_2 a0_3 a0_4 a0_5 a0_6 a0_7 a0_8 = some (n1, n2, n3, n4, true, 0)) (hg : drv_good.f k a0_0 a0_1 a0_2 a0_3 a0_4 a0_5 a0_6 a0_7 a0_8 n1 n2 n3 n4 a1_0 l1_1 = some true) (hrow : ∀ n, ∃ s tx, Instr.findNow (.int .i64) (.int .i64 a0_4) (Dr.tabRows n).toList 0 = some (some (s, .agg #[tx, .func (.func 57) #[] #[]]))) (hc : drv_samples.f k a0_0 a0_1 a0_2 a0_3 a0_4 0 a0_6 a0_7 a0_8 l1_1 = some (r1, r2, r3, r4, r5, r6, r7, r8, r9, r10)) :
    Calls Try.prog 18 #[.agg #[.int .i64 a0_0, .int .i64 a0_1, .bool a0_2, .int .i64 a0_3, .int .i64 a0_4, .int .i64 a0_5, .bool a0_6, .int .i64 a0_7, .int .i64 a0_8], .agg #[.int .i64 a1_0, .slice A1_1 l1_1.length c1_1]] w fun e w' => ∃ v9_ : Value, e = .returned (.tuple #[.agg #[.int .i64 r1, .int .i64 r2, .bool r3, .int .i64 r4, .int .i64 r5, .int .i64 r6, .bool r7, .int .i64 r8, .int .i64 r9], v9_, .bool false, .int .i64 0]) ∧ Kd.R k55 55 w' w.heap.size (fun _ => True) v9_ r10 ∧ Below w.heap.size w w' := by
  have HR := Aside0.mk hr1_1
  have HC := Aside0.mk hc1_1
  have HN := Aside0.mk hn
  have HG := Aside0.mk hg
  have HCL := Aside0.mk hc
  have HROW := Aside0.mk hrow
  clear hr1_1 hc1_1 hn hg hc hrow
  have hmk := take_mk
  go_enter Try.func18, Try.ntmps18
  go_upto_region 6 with (first | (go_at_call 9; (with_reducible refine (drv_Next.calls _ _ _ _ _ _ _ _ _ _ _ _ _ _ _ _ HN.out).mono ?_); rintro e w1 ⟨sv, rfl, hsv, hb1⟩; obtain ⟨A3, c3, rfl⟩ := Kd.R_slice hsv; have HSV := Aside0.mk hsv; obtain ⟨hD, hA, hN, hB, z1, z2, z3, z4, z5, z6⟩ := Tk.three hb1; have BKD := Aside0.mk hD; have BKA := Aside0.mk hA; have BKN := Aside0.mk hN; have HB1 := Aside0.mk hB; clear hsv hb1 hD hA hN hB; obtain ⟨hd0, hd1, hd2, hd3, hd4, hd5, hd6, hd7, hd8⟩ := Sq.c9 BKD.out; obtain ⟨ha0, ha1⟩ := Sq.c2 BKA.out) | (go_at_call 35; (with_reducible refine (drv_good.calls k _ _ _ _ _ _ _ _ _ _ _ _ _ _ _ _ _ _ _ _ _ (Kd.C_alloc (Kd.C_alloc (Kd.R_reads' HSV.out).2.2 _) _) (Kd.R_reads' HSV.out).2.1 (Kd.C_alloc (Kd.C_alloc (Kd.C_below HR.out HB1.out) _) _) HC.out HG.out).mono ?_); rintro e w2 ⟨rfl, hb2⟩; have BKC := Aside0.mk (blk_below (blk_new (w1.alloc (.cells #[.int .i64 n1, .int .i64 n2, .slice A3 n3.length c3, .int .i64 n4] 31 (0, 0))) (.chan 1 #[] false 0 0 false)) hb2); simp only [World.size_alloc] at BKC; have BD2 := Aside0.mk (blk_below (blk_alloc (blk_alloc BKD.out _) _) hb2); have BA2 := Aside0.mk (blk_below (blk_alloc (blk_alloc BKA.out _) _) hb2); have BN2 := Aside0.mk (blk_below (blk_alloc (blk_alloc BKN.out _) _) hb2); have HB2 := Aside0.mk (below_step (below_alloc (below_alloc HB1.out _) _) hb2); clear hb2; have hg2 := HB1.out.size; have hw2 : w.heap.size ≤ w1.heap.size + 1 := (by omega); clear hg2 hd0 hd1 hd2 hd3 hd4 hd5 hd6 hd7 hd8 ha0 ha1 z1 z2 z3 z4 z5 z6 BKD BKA BKN; obtain ⟨ha0, ha1⟩ := Sq.c2 BA2.out))
  refine Ch.wp_region_from ?_
  refine Ch.FromL.value (v := .chan (some (w1.heap.size + 1))) (w' := w2) rfl rfl ?_
  simp only [Act.put, List.setIfInBounds_toArray, List.set_cons_zero, List.set_cons_succ]
  refine Ch.FromL.value (v := .agg #[.int .i64 a1_0, .slice A1_1 l1_1.length c1_1]) (w' := w2) rfl ?ld ?_
  case ld => go_simp
  simp only [Act.put, List.setIfInBounds_toArray, List.set_cons_zero, List.set_cons_succ]
  refine Ch.FromL.comm (w1 := w2) rfl rfl (Ch.Comm.send (w1.heap.size + 1) 1 #[] 0 0 false (.agg #[.int .i64 a1_0, .slice A1_1 l1_1.length c1_1]) (.tuple #[]) BKC.out (by decide)) ?_
  refine Ch.FromL.ops ?_
  obtain ⟨w3, hw3⟩ : ∃ w3, w3 = ({ w2 with heap := w2.heap.setIfInBounds (w1.heap.size + 1) (.chan 1 (#[].push (.agg #[.int .i64 a1_0, .slice A1_1 l1_1.length c1_1])) false (0 + 1) 0 false) } : World) := ⟨_, rfl⟩
  rw [← hw3]
  have BD3 := Aside0.mk (show w3.heap[w.heap.size]? = _ from hw3 ▸ Ch.chan_blk BKC.out BD2.out (by simp))
  have BN3 := Aside0.mk (show w3.heap[w.heap.size + 1 + 1]? = _ from hw3 ▸ Ch.chan_blk BKC.out BN2.out (by simp))
  have BC3 := Aside0.mk (show w3.heap[w1.heap.size + 1]? = _ from hw3 ▸ Ch.chan_same BKC.out)
  have HB3 := Aside0.mk (show Below w.heap.size w w3 from hw3 ▸ HB2.out.trans (Ch.chan_below hw2))
  clear hw3 BKC BD2 BA2 BN2 HB2 ha0 ha1
  go_upto_region 8 with (fail)
  refine Ch.wp_region_from ?_
  refine Ch.FromL.comm (w1 := w3) rfl ?rn (Ch.Comm.take (w1.heap.size + 1) 1 (#[].push (.agg #[.int .i64 a1_0, .slice A1_1 l1_1.length c1_1])) (0 + 1) 0 false (.agg #[.int .i64 0, .slice none 0 0]) BC3.out (by simp)) ?_
  case rn =>
    simp only [execOp]
    simp [take_zero]
    rfl
  refine Ch.FromL.ops ?_
  simp only [Act.put, List.setIfInBounds_toArray, List.set_cons_zero, List.set_cons_succ]
  obtain ⟨w4, hw4⟩ : ∃ w4, w4 = ({ w3 with heap := w3.heap.setIfInBounds (w1.heap.size + 1) (.chan 1 ((#[].push (.agg #[.int .i64 a1_0, .slice A1_1 l1_1.length c1_1])).extract 1 (#[].push (Value.agg #[.int .i64 a1_0, .slice A1_1 l1_1.length c1_1])).size) false (0 + 1) (0 + 1) false) } : World) := ⟨_, rfl⟩
  rw [← hw4]
  have BD4 := Aside0.mk (show w4.heap[w.heap.size]? = _ from hw4 ▸ Ch.chan_blk BC3.out BD3.out (by simp))
  have BN4 := Aside0.mk (show w4.heap[w.heap.size + 1 + 1]? = _ from hw4 ▸ Ch.chan_blk BC3.out BN3.out (by simp))
  have HB4 := Aside0.mk (show Below w.heap.size w w4 from hw4 ▸ HB3.out.trans (Ch.chan_below hw2))
  have hva : (#[].push (Value.agg #[.int .i64 a1_0, .slice A1_1 l1_1.length c1_1])).getD 0 undef = .agg #[.int .i64 a1_0, .slice A1_1 l1_1.length c1_1] := rfl
  rw [hva]
  have hfd := blk_frozen BD4.out 5
  have hd5 : w4.cell? ⟨w.heap.size, 5, none⟩ = some (.int .i64 a0_5) := (blk_cell BD4.out 5).trans rfl
  have hz4 := blk_lt BD4.out
  clear hw4 BC3 BD3 BN3 HB3 hw2 hmk HSV HG HN HB1
  go_upto_block 0 with (fail)
  go_cut [5, 6] (fun v5 v6 wc => ∃ v9 : Value, v5 = v9 ∧ v6 = .bool false ∧ Aside0 (wc.heap[w.heap.size + 1 + 1]? = some (.cells #[.int .i64 r1, .int .i64 r2, .bool r3, .int .i64 r4, .int .i64 r5, .int .i64 r6, .bool r7, .int .i64 r8, .int .i64 r9] 24 (0, 0))) ∧ Aside0 (Kd.R k55 55 wc w.heap.size (fun _ => True) v9 r10) ∧ Aside0 (Below w.heap.size w wc))
  case first =>
    go_upto_region 12 with (fail)
    obtain ⟨gx, hgx⟩ : ∃ gx, gx = w4.heap.size := ⟨_, rfl⟩
    obtain ⟨w5, hw5⟩ : ∃ w5, w5 = ((w4.setCell ⟨w.heap.size, 5, none⟩ (.int .i64 0)).alloc (.cells #[.int .i64 a1_0, .slice A1_1 l1_1.length c1_1] 27 (0, 0))) := ⟨_, rfl⟩
    have BD5 := Aside0.mk (show w5.heap[w.heap.size]? = some (.cells #[.int .i64 a0_0, .int .i64 a0_1, .bool a0_2, .int .i64 a0_3, .int .i64 a0_4, .int .i64 0, .bool a0_6, .int .i64 a0_7, .int .i64 a0_8] 24 (0, 0)) from hw5 ▸ blk_alloc (blk_put BD4.out 5 _ rfl) _)
    have BN5 := Aside0.mk (show w5.heap[w.heap.size + 1 + 1]? = _ from hw5 ▸ blk_alloc (blk_far BN4.out (show w.heap.size + 1 + 1 ≠ w.heap.size by omega) _) _)
    have BX5 := Aside0.mk (show w5.heap[gx]? = some (.cells #[.int .i64 a1_0, .slice A1_1 l1_1.length c1_1] 27 (0, 0)) from by rw [hw5, hgx]; have := blk_new (w4.setCell ⟨w.heap.size, 5, none⟩ (.int .i64 0)) (.cells #[.int .i64 a1_0, .slice A1_1 l1_1.length c1_1] 27 (0, 0)); simpa [World.setCell] using this)
    have HB5 := Aside0.mk (show Below w.heap.size w w5 from hw5 ▸ below_alloc (below_set HB4.out (Nat.le_refl _)) _)
    have gz3 : w.heap.size + 1 + 1 < gx := hgx ▸ blk_lt BN4.out
    rw [← hw5, ← hgx]
    have hN1 : w.heap.size ≠ w.heap.size + 1 + 1 := by omega
    have hN2 : gx ≠ w.heap.size + 1 + 1 := by omega
    have hGE : w.heap.size ≤ w.heap.size + 1 + 1 := by omega
    have hS5 : (fun w' : World => w'.cell? ⟨w.heap.size, 0, none⟩ = some (.int .i64 a0_0) ∧ w'.cell? ⟨w.heap.size, 1, none⟩ = some (.int .i64 a0_1) ∧ w'.cell? ⟨w.heap.size, 2, none⟩ = some (.bool a0_2) ∧ w'.cell? ⟨w.heap.size, 3, none⟩ = some (.int .i64 a0_3) ∧ w'.cell? ⟨w.heap.size, 4, none⟩ = some (.int .i64 a0_4) ∧ w'.cell? ⟨w.heap.size, 5, none⟩ = some (.int .i64 0) ∧ w'.cell? ⟨w.heap.size, 6, none⟩ = some (.bool a0_6) ∧ w'.cell? ⟨w.heap.size, 7, none⟩ = some (.int .i64 a0_7) ∧ w'.cell? ⟨w.heap.size, 8, none⟩ = some (.int .i64 a0_8) ∧ w'.cell? ⟨gx, 0, none⟩ = some (.int .i64 a1_0) ∧ w'.cell? ⟨gx, 1, none⟩ = some (.slice A1_1 l1_1.length c1_1)) w5.drew := Sq.j9 (blk_drew BD5.out) (Sq.c2 (blk_drew BX5.out))
    have hfl : ∀ (tx : Value) (W : World), (Instr.field 83 (.agg #[tx, .func (.func 57) #[] #[]]) 1).run Try.prog W = .ok (.func (.func 57) #[] #[]) W := fun _ _ => by kernel_rfl
    clear hw5 hgx BD4 BN4 HB4 hfd hd5 hz4 hva gz3
    go_region_held3 (fun w' : World => w'.cell? ⟨w.heap.size, 0, none⟩ = some (.int .i64 a0_0) ∧ w'.cell? ⟨w.heap.size, 1, none⟩ = some (.int .i64 a0_1) ∧ w'.cell? ⟨w.heap.size, 2, none⟩ = some (.bool a0_2) ∧ w'.cell? ⟨w.heap.size, 3, none⟩ = some (.int .i64 a0_3) ∧ w'.cell? ⟨w.heap.size, 4, none⟩ = some (.int .i64 a0_4) ∧ w'.cell? ⟨w.heap.size, 5, none⟩ = some (.int .i64 0) ∧ w'.cell? ⟨w.heap.size, 6, none⟩ = some (.bool a0_6) ∧ w'.cell? ⟨w.heap.size, 7, none⟩ = some (.int .i64 a0_7) ∧ w'.cell? ⟨w.heap.size, 8, none⟩ = some (.int .i64 a0_8) ∧ w'.cell? ⟨gx, 0, none⟩ = some (.int .i64 a1_0) ∧ w'.cell? ⟨gx, 1, none⟩ = some (.slice A1_1 l1_1.length c1_1)) (first | with_reducible assumption | with_reducible exact Tk.keep11s hN1 hN2 (by with_reducible assumption)) (first | (go_at_call 33; ((with_reducible refine (Dr.table_tab _).mono ?_); rintro e' w6 ⟨n6, ht, rfl⟩; have hS6 := Tk.keep11 ht.below hS5; obtain ⟨s6, tx6, hf6⟩ := HROW.out n6; have hlk : (Instr.lookup 85 (.map (some (n6 + 1))) (.int .i64 a0_4) false).run Try.prog w6 = .ok (.agg #[tx6, .func (.func 57) #[] #[]]) w6 := Dr.look_row ht.map a0_4 s6 _ false hf6; clear hf6; have HB6 := Aside0.mk (below_step (below_drew1 HB5.out) ht.below); have BN6 := Aside0.mk (blk_below (blk_drew BN5.out) ht.below); clear ht)) | (go_at_call 57; ((with_reducible refine (drv_samples.calls k _ _ _ _ _ _ _ _ _ (fun k_ => k_ < w6.heap.size) _ _ _ _ _ _ _ _ _ _ _ _ _ _ (Kd.V_mk HC.out (Kd.C_F (Kd.heap_int _) (Kd.C_below HR.out HB6.out))) HCL.out).mono ?_); rintro e' w7 ⟨v9, rfl, h9, hb7⟩; have hS7 := Tk.keep11 hb7 hS6; have HB7 := Aside0.mk (below_step HB6.out hb7); have BN7 := Aside0.mk (blk_below BN6.out hb7); have H9 := Aside0.mk (Kd.R_lower (Kd.R_mono h9 (ok' := fun _ => True) (fun _ _ => trivial)) HB6.out.size); clear h9 hb7; obtain ⟨hn0, hn1, hn2, hn3, hn4, hn5, hn6, hn7, hn8⟩ := Sq.c9 BN7.out; obtain ⟨hfn0, hfn1, hfn2, hfn3, hfn4, hfn5, hfn6, hfn7, hfn8⟩ := Sq.f9 BN7.out)))
    go_wp2
    go_meet
    case rel => exact ⟨v9, rfl, rfl, ⟨Tk.put9 BN7.out⟩, ⟨Tk.R9 H9.out BN7.out (by decide)⟩, ⟨Tk.below9 HB7.out hGE⟩⟩
  case rest =>
    obtain ⟨v9, rfl, rfl, BN, H9, HB⟩ := hcut
    obtain ⟨hn0, hn1, hn2, hn3, hn4, hn5, hn6, hn7, hn8⟩ := Sq.c9 BN.out
    obtain ⟨hfn0, hfn1, hfn2, hfn3, hfn4, hfn5, hfn6, hfn7, hfn8⟩ := Sq.f9 BN.out
    go_wp2
    refine bodyPost_ret (v := .tuple #[.agg #[.int .i64 r1, .int .i64 r2, .bool r3, .int .i64 r4, .int .i64 r5, .int .i64 r6, .bool r7, .int .i64 r8, .int .i64 r9], u5, .bool false, .int .i64 0]) ?_ rfl ?_
    · refine Ch.results_ctttt (fn := Try.f18) (p := 4) (q := 5) (r := 6) (s := 7) (ty := 24) rfl _ _ (w.heap.size + 1 + 1) 24 #[.int .i64 r1, .int .i64 r2, .bool r3, .int .i64 r4, .int .i64 r5, .int .i64 r6, .bool r7, .int .i64 r8, .int .i64 r9] (0, 0) _ rfl (Tk.put9 BN.out) Try.underlying24 rfl (by kernel_rfl)
    · exact ⟨u5, rfl, Tk.R9 H9.out BN.out (by decide), Tk.below9 HB.out (by omega)⟩
set_option maxHeartbeats 2000000 in
theorem becomes_call (a i : Int) (p : Bool) (b c e : Int) (t : Bool) (l q : Int) (r1 r2 : Int) (r3 : Bool) (r4 r5 r6 : Int) (r7 : Bool) (r8 r9 : Int) (r10 : List (S55)) (A : Option Addr) (n m : Nat) (x y : Addr) (w : World) (hx : w.cell? x = some (.int .i64 0)) (hy : w.cell? y = some (.bool false)) (h : (a, i, p, b, (0 : Int), e, false, l, q, ([] : List (S55))) = (r1, r2, r3, r4, r5, r6, r7, r8, r9, r10)) :
    Calls Try.prog 70 #[.agg #[.int .i64 a, .int .i64 i, .bool p, .int .i64 b, .int .i64 c, .int .i64 e, .bool t, .int .i64 l, .int .i64 q], .slice A n m, .pointer (some x), .pointer (some y)] w fun e' w' => ∃ v9_ : Value, e' = .returned (.tuple #[.agg #[.int .i64 r1, .int .i64 r2, .bool r3, .int .i64 r4, .int .i64 r5, .int .i64 r6, .bool r7, .int .i64 r8, .int .i64 r9], v9_]) ∧ Kd.R k55 55 w' w.heap.size (fun _ => True) v9_ r10 ∧ Below w.heap.size w w' := by
  simp only [Prod.mk.injEq] at h
  obtain ⟨rfl, rfl, rfl, rfl, rfl, rfl, rfl, rfl, rfl, rfl⟩ := h
  have hxl := World.block_lt_of_cell? w x hx
  have hyl := World.block_lt_of_cell? w y hy
  have hx1 : x.block < w.heap.size + 1 := by omega
  have hy1 : y.block < w.heap.size + 1 := by omega
  go_enter Try.func70, Try.ntmps70
  go_wp2
  go_region
  go_wp2
  refine bodyPost_ret (v := .tuple #[.agg #[.int .i64 a, .int .i64 i, .bool p, .int .i64 b, .int .i64 0, .int .i64 e, .bool false, .int .i64 l, .int .i64 q], .slice none 0 0]) ?_ rfl ?_
  · refine results_ct (fn := Try.f70) (p := 6) (u := 7) (ty := 24) rfl _ _ (w.heap.size + 1) 24 #[.int .i64 a, .int .i64 i, .bool p, .int .i64 b, .int .i64 0, .int .i64 e, .bool false, .int .i64 l, .int .i64 q] (0, 0) _ rfl ?_ Try.underlying24 rfl (by kernel_rfl)
    have hnew := blk_new (w.alloc (.cells #[.int .i64 a, .int .i64 i, .bool p, .int .i64 b, .int .i64 0, .int .i64 e, .bool false, .int .i64 l, .int .i64 q] 24 (0, 0))) (.cells #[.int .i64 a, .int .i64 i, .bool p, .int .i64 b, .int .i64 0, .int .i64 e, .bool false, .int .i64 l, .int .i64 q] 24 (0, 0))
    simp only [World.size_alloc] at hnew
    exact hnew
  · refine ⟨_, rfl, Kd.R_nil _ _ _ _ _, ?_⟩
    repeat (first | exact Below.refl _ _ | apply below_alloc | apply below_drew1)
set_option maxHeartbeats 4000000 in
set_option maxRecDepth 100000 in
theorem take_becomes (k : Nat) (a0_0 a0_1 : Int) (a0_2 : Bool) (a0_3 a0_4 a0_5 : Int) (a0_6 : Bool) (a0_7 a0_8 : Int) (r1 r2 : Int) (r3 : Bool) (r4 r5 r6 : Int) (r7 : Bool) (r8 r9 : Int) (r10 : List (S55)) (a1_0 : Int) (A1_1 : Option Addr) (c1_1 : Nat) (l1_1 : List Int) (n1 n2 : Int) (n3 : List Int) (n4 : Int) (w : World) (hr1_1 : Kd.C (Kd.int .u8) w A1_1 l1_1.length l1_1) (hc1_1 : l1_1.length ≤ c1_1)
  (hn : drv_Next.f a0_0 a0_1 a0_2 a0_3 a0_4 a0_5 a0_6 a0_7 a0_8 = some (n1, n2, n3, n4, true, 0)) (hg : drv_good.f k a0_0 a0_1 a0_2 a0_3 a0_4 a0_5 a0_6 a0_7 a0_8 n1 n2 n3 n4 a1_0 l1_1 = some true) (hrow : ∀ n, ∃ s tx, Instr.findNow (.int .i64) (.int .i64 a0_4) (Dr.tabRows n).toList 0 = some (some (s, .agg #[tx, .func (.func 70) #[] #[.pointer (some ⟨n + 15, 0, none⟩), .pointer (some ⟨n + 16, 0, none⟩)]]))) (hc : (a0_0, a0_1, a0_2, a0_3, (0 : Int), (0 : Int), false, a0_7, a0_8, ([] : List (S55))) = (r1, r2, r3, r4, r5, r6, r7, r8, r9, r10)) :
    Calls Try.prog 18 #[.agg #[.int .i64 a0_0, .int .i64 a0_1, .bool a0_2, .int .i64 a0_3, .int .i64 a0_4, .int .i64 a0_5, .bool a0_6, .int .i64 a0_7, .int .i64 a0_8], .agg #[.int .i64 a1_0, .slice A1_1 l1_1.length c1_1]] w fun e w' => ∃ v9_ : Value, e = .returned (.tuple #[.agg #[.int .i64 r1, .int .i64 r2, .bool r3, .int .i64 r4, .int .i64 r5, .int .i64 r6, .bool r7, .int .i64 r8, .int .i64 r9], v9_, .bool false, .int .i64 0]) ∧ Kd.R k55 55 w' w.heap.size (fun _ => True) v9_ r10 ∧ Below w.heap.size w w' := by
  have HR := Aside0.mk hr1_1
  have HC := Aside0.mk hc1_1
  have HN := Aside0.mk hn
  have HG := Aside0.mk hg
  have HCL := Aside0.mk hc
  have HROW := Aside0.mk hrow
  clear hr1_1 hc1_1 hn hg hc hrow
  have hmk := take_mk
  go_enter Try.func18, Try.ntmps18
  go_upto_region 6 with (first | (go_at_call 9; (with_reducible refine (drv_Next.calls _ _ _ _ _ _ _ _ _ _ _ _ _ _ _ _ HN.out).mono ?_); rintro e w1 ⟨sv, rfl, hsv, hb1⟩; obtain ⟨A3, c3, rfl⟩ := Kd.R_slice hsv; have HSV := Aside0.mk hsv; obtain ⟨hD, hA, hN, hB, z1, z2, z3, z4, z5, z6⟩ := Tk.three hb1; have BKD := Aside0.mk hD; have BKA := Aside0.mk hA; have BKN := Aside0.mk hN; have HB1 := Aside0.mk hB; clear hsv hb1 hD hA hN hB; obtain ⟨hd0, hd1, hd2, hd3, hd4, hd5, hd6, hd7, hd8⟩ := Sq.c9 BKD.out; obtain ⟨ha0, ha1⟩ := Sq.c2 BKA.out) | (go_at_call 35; (with_reducible refine (drv_good.calls k _ _ _ _ _ _ _ _ _ _ _ _ _ _ _ _ _ _ _ _ _ (Kd.C_alloc (Kd.C_alloc (Kd.R_reads' HSV.out).2.2 _) _) (Kd.R_reads' HSV.out).2.1 (Kd.C_alloc (Kd.C_alloc (Kd.C_below HR.out HB1.out) _) _) HC.out HG.out).mono ?_); rintro e w2 ⟨rfl, hb2⟩; have BKC := Aside0.mk (blk_below (blk_new (w1.alloc (.cells #[.int .i64 n1, .int .i64 n2, .slice A3 n3.length c3, .int .i64 n4] 31 (0, 0))) (.chan 1 #[] false 0 0 false)) hb2); simp only [World.size_alloc] at BKC; have BD2 := Aside0.mk (blk_below (blk_alloc (blk_alloc BKD.out _) _) hb2); have BA2 := Aside0.mk (blk_below (blk_alloc (blk_alloc BKA.out _) _) hb2); have BN2 := Aside0.mk (blk_below (blk_alloc (blk_alloc BKN.out _) _) hb2); have HB2 := Aside0.mk (below_step (below_alloc (below_alloc HB1.out _) _) hb2); clear hb2; have hg2 := HB1.out.size; have hw2 : w.heap.size ≤ w1.heap.size + 1 := (by omega); clear hg2 hd0 hd1 hd2 hd3 hd4 hd5 hd6 hd7 hd8 ha0 ha1 z1 z2 z3 z4 z5 z6 BKD BKA BKN; obtain ⟨ha0, ha1⟩ := Sq.c2 BA2.out))
  refine Ch.wp_region_from ?_
  refine Ch.FromL.value (v := .chan (some (w1.heap.size + 1))) (w' := w2) rfl rfl ?_
  simp only [Act.put, List.setIfInBounds_toArray, List.set_cons_zero, List.set_cons_succ]
  refine Ch.FromL.value (v := .agg #[.int .i64 a1_0, .slice A1_1 l1_1.length c1_1]) (w' := w2) rfl ?ld ?_
  case ld => go_simp
  simp only [Act.put, List.setIfInBounds_toArray, List.set_cons_zero, List.set_cons_succ]
  refine Ch.FromL.comm (w1 := w2) rfl rfl (Ch.Comm.send (w1.heap.size + 1) 1 #[] 0 0 false (.agg #[.int .i64 a1_0, .slice A1_1 l1_1.length c1_1]) (.tuple #[]) BKC.out (by decide)) ?_
  refine Ch.FromL.ops ?_
  obtain ⟨w3, hw3⟩ : ∃ w3, w3 = ({ w2 with heap := w2.heap.setIfInBounds (w1.heap.size + 1) (.chan 1 (#[].push (.agg #[.int .i64 a1_0, .slice A1_1 l1_1.length c1_1])) false (0 + 1) 0 false) } : World) := ⟨_, rfl⟩
  rw [← hw3]
  have BD3 := Aside0.mk (show w3.heap[w.heap.size]? = _ from hw3 ▸ Ch.chan_blk BKC.out BD2.out (by simp))
  have BN3 := Aside0.mk (show w3.heap[w.heap.size + 1 + 1]? = _ from hw3 ▸ Ch.chan_blk BKC.out BN2.out (by simp))
  have BC3 := Aside0.mk (show w3.heap[w1.heap.size + 1]? = _ from hw3 ▸ Ch.chan_same BKC.out)
  have HB3 := Aside0.mk (show Below w.heap.size w w3 from hw3 ▸ HB2.out.trans (Ch.chan_below hw2))
  clear hw3 BKC BD2 BA2 BN2 HB2 ha0 ha1
  go_upto_region 8 with (fail)
  refine Ch.wp_region_from ?_
  refine Ch.FromL.comm (w1 := w3) rfl ?rn (Ch.Comm.take (w1.heap.size + 1) 1 (#[].push (.agg #[.int .i64 a1_0, .slice A1_1 l1_1.length c1_1])) (0 + 1) 0 false (.agg #[.int .i64 0, .slice none 0 0]) BC3.out (by simp)) ?_
  case rn =>
    simp only [execOp]
    simp [take_zero]
    rfl
  refine Ch.FromL.ops ?_
  simp only [Act.put, List.setIfInBounds_toArray, List.set_cons_zero, List.set_cons_succ]
  obtain ⟨w4, hw4⟩ : ∃ w4, w4 = ({ w3 with heap := w3.heap.setIfInBounds (w1.heap.size + 1) (.chan 1 ((#[].push (.agg #[.int .i64 a1_0, .slice A1_1 l1_1.length c1_1])).extract 1 (#[].push (Value.agg #[.int .i64 a1_0, .slice A1_1 l1_1.length c1_1])).size) false (0 + 1) (0 + 1) false) } : World) := ⟨_, rfl⟩
  rw [← hw4]
  have BD4 := Aside0.mk (show w4.heap[w.heap.size]? = _ from hw4 ▸ Ch.chan_blk BC3.out BD3.out (by simp))
  have BN4 := Aside0.mk (show w4.heap[w.heap.size + 1 + 1]? = _ from hw4 ▸ Ch.chan_blk BC3.out BN3.out (by simp))
  have HB4 := Aside0.mk (show Below w.heap.size w w4 from hw4 ▸ HB3.out.trans (Ch.chan_below hw2))
  have hva : (#[].push (Value.agg #[.int .i64 a1_0, .slice A1_1 l1_1.length c1_1])).getD 0 undef = .agg #[.int .i64 a1_0, .slice A1_1 l1_1.length c1_1] := rfl
  rw [hva]
  have hfd := blk_frozen BD4.out 5
  have hd5 : w4.cell? ⟨w.heap.size, 5, none⟩ = some (.int .i64 a0_5) := (blk_cell BD4.out 5).trans rfl
  have hz4 := blk_lt BD4.out
  clear hw4 BC3 BD3 BN3 HB3 hw2 hmk HSV HG HN HB1
  go_upto_block 0 with (fail)
  go_cut [5, 6] (fun v5 v6 wc => ∃ v9 : Value, v5 = v9 ∧ v6 = .bool false ∧ Aside0 (wc.heap[w.heap.size + 1 + 1]? = some (.cells #[.int .i64 r1, .int .i64 r2, .bool r3, .int .i64 r4, .int .i64 r5, .int .i64 r6, .bool r7, .int .i64 r8, .int .i64 r9] 24 (0, 0))) ∧ Aside0 (Kd.R k55 55 wc w.heap.size (fun _ => True) v9 r10) ∧ Aside0 (Below w.heap.size w wc))
  case first =>
    go_upto_region 12 with (fail)
    obtain ⟨gx, hgx⟩ : ∃ gx, gx = w4.heap.size := ⟨_, rfl⟩
    obtain ⟨w5, hw5⟩ : ∃ w5, w5 = ((w4.setCell ⟨w.heap.size, 5, none⟩ (.int .i64 0)).alloc (.cells #[.int .i64 a1_0, .slice A1_1 l1_1.length c1_1] 27 (0, 0))) := ⟨_, rfl⟩
    have BD5 := Aside0.mk (show w5.heap[w.heap.size]? = some (.cells #[.int .i64 a0_0, .int .i64 a0_1, .bool a0_2, .int .i64 a0_3, .int .i64 a0_4, .int .i64 0, .bool a0_6, .int .i64 a0_7, .int .i64 a0_8] 24 (0, 0)) from hw5 ▸ blk_alloc (blk_put BD4.out 5 _ rfl) _)
    have BN5 := Aside0.mk (show w5.heap[w.heap.size + 1 + 1]? = _ from hw5 ▸ blk_alloc (blk_far BN4.out (show w.heap.size + 1 + 1 ≠ w.heap.size by omega) _) _)
    have BX5 := Aside0.mk (show w5.heap[gx]? = some (.cells #[.int .i64 a1_0, .slice A1_1 l1_1.length c1_1] 27 (0, 0)) from by rw [hw5, hgx]; have := blk_new (w4.setCell ⟨w.heap.size, 5, none⟩ (.int .i64 0)) (.cells #[.int .i64 a1_0, .slice A1_1 l1_1.length c1_1] 27 (0, 0)); simpa [World.setCell] using this)
    have HB5 := Aside0.mk (show Below w.heap.size w w5 from hw5 ▸ below_alloc (below_set HB4.out (Nat.le_refl _)) _)
    have gz3 : w.heap.size + 1 + 1 < gx := hgx ▸ blk_lt BN4.out
    rw [← hw5, ← hgx]
    have hN1 : w.heap.size ≠ w.heap.size + 1 + 1 := by omega
    have hN2 : gx ≠ w.heap.size + 1 + 1 := by omega
    have hGE : w.heap.size ≤ w.heap.size + 1 + 1 := by omega
    have hS5 : (fun w' : World => w'.cell? ⟨w.heap.size, 0, none⟩ = some (.int .i64 a0_0) ∧ w'.cell? ⟨w.heap.size, 1, none⟩ = some (.int .i64 a0_1) ∧ w'.cell? ⟨w.heap.size, 2, none⟩ = some (.bool a0_2) ∧ w'.cell? ⟨w.heap.size, 3, none⟩ = some (.int .i64 a0_3) ∧ w'.cell? ⟨w.heap.size, 4, none⟩ = some (.int .i64 a0_4) ∧ w'.cell? ⟨w.heap.size, 5, none⟩ = some (.int .i64 0) ∧ w'.cell? ⟨w.heap.size, 6, none⟩ = some (.bool a0_6) ∧ w'.cell? ⟨w.heap.size, 7, none⟩ = some (.int .i64 a0_7) ∧ w'.cell? ⟨w.heap.size, 8, none⟩ = some (.int .i64 a0_8) ∧ w'.cell? ⟨gx, 0, none⟩ = some (.int .i64 a1_0) ∧ w'.cell? ⟨gx, 1, none⟩ = some (.slice A1_1 l1_1.length c1_1)) w5.drew := Sq.j9 (blk_drew BD5.out) (Sq.c2 (blk_drew BX5.out))
    have hfl : ∀ (tx : Value) (n : Nat) (W : World), (Instr.field 83 (.agg #[tx, .func (.func 70) #[] #[.pointer (some ⟨n + 15, 0, none⟩), .pointer (some ⟨n + 16, 0, none⟩)]]) 1).run Try.prog W = .ok (.func (.func 70) #[] #[.pointer (some ⟨n + 15, 0, none⟩), .pointer (some ⟨n + 16, 0, none⟩)]) W := fun _ _ _ => by kernel_rfl
    clear hw5 hgx BD4 BN4 HB4 hfd hd5 hz4 hva gz3
    go_region_held3 (fun w' : World => w'.cell? ⟨w.heap.size, 0, none⟩ = some (.int .i64 a0_0) ∧ w'.cell? ⟨w.heap.size, 1, none⟩ = some (.int .i64 a0_1) ∧ w'.cell? ⟨w.heap.size, 2, none⟩ = some (.bool a0_2) ∧ w'.cell? ⟨w.heap.size, 3, none⟩ = some (.int .i64 a0_3) ∧ w'.cell? ⟨w.heap.size, 4, none⟩ = some (.int .i64 a0_4) ∧ w'.cell? ⟨w.heap.size, 5, none⟩ = some (.int .i64 0) ∧ w'.cell? ⟨w.heap.size, 6, none⟩ = some (.bool a0_6) ∧ w'.cell? ⟨w.heap.size, 7, none⟩ = some (.int .i64 a0_7) ∧ w'.cell? ⟨w.heap.size, 8, none⟩ = some (.int .i64 a0_8) ∧ w'.cell? ⟨gx, 0, none⟩ = some (.int .i64 a1_0) ∧ w'.cell? ⟨gx, 1, none⟩ = some (.slice A1_1 l1_1.length c1_1)) (first | with_reducible assumption | with_reducible exact Tk.keep11s hN1 hN2 (by with_reducible assumption)) (first | (go_at_call 33; ((with_reducible refine (Dr.table_tab _).mono ?_); rintro e' w6 ⟨n6, ht, rfl⟩; have hS6 := Tk.keep11 ht.below hS5; obtain ⟨s6, tx6, hf6⟩ := HROW.out n6; have hlk : (Instr.lookup 85 (.map (some (n6 + 1))) (.int .i64 a0_4) false).run Try.prog w6 = .ok (.agg #[tx6, .func (.func 70) #[] #[.pointer (some ⟨n6 + 15, 0, none⟩), .pointer (some ⟨n6 + 16, 0, none⟩)]]) w6 := Dr.look_row ht.map a0_4 s6 _ false hf6; clear hf6; have HB6 := Aside0.mk (below_step (below_drew1 HB5.out) ht.below); have BN6 := Aside0.mk (blk_below (blk_drew BN5.out) ht.below); have hz15 : w6.cell? ⟨n6 + 15, 0, none⟩ = some (.int .i64 0) := ht.objs 15 _ _ rfl; have hz16 : w6.cell? ⟨n6 + 16, 0, none⟩ = some (.bool false) := ht.objs 16 _ _ rfl; clear ht)) | (go_at_call 70; ((with_reducible refine (becomes_call _ _ _ _ _ _ _ _ _ _ _ _ _ _ _ _ _ _ _ _ _ _ _ _ _ hz15 hz16 HCL.out).mono ?_); rintro e' w7 ⟨v9, rfl, h9, hb7⟩; have hS7 := Tk.keep11 hb7 hS6; have HB7 := Aside0.mk (below_step HB6.out hb7); have BN7 := Aside0.mk (blk_below BN6.out hb7); have H9 := Aside0.mk (Kd.R_lower (h9) HB6.out.size); clear h9 hb7; obtain ⟨hn0, hn1, hn2, hn3, hn4, hn5, hn6, hn7, hn8⟩ := Sq.c9 BN7.out; obtain ⟨hfn0, hfn1, hfn2, hfn3, hfn4, hfn5, hfn6, hfn7, hfn8⟩ := Sq.f9 BN7.out)))
    go_wp2
    go_meet
    case rel => exact ⟨v9, rfl, rfl, ⟨Tk.put9 BN7.out⟩, ⟨Tk.R9 H9.out BN7.out (by decide)⟩, ⟨Tk.below9 HB7.out hGE⟩⟩
  case rest =>
    obtain ⟨v9, rfl, rfl, BN, H9, HB⟩ := hcut
    obtain ⟨hn0, hn1, hn2, hn3, hn4, hn5, hn6, hn7, hn8⟩ := Sq.c9 BN.out
    obtain ⟨hfn0, hfn1, hfn2, hfn3, hfn4, hfn5, hfn6, hfn7, hfn8⟩ := Sq.f9 BN.out
    go_wp2
    refine bodyPost_ret (v := .tuple #[.agg #[.int .i64 r1, .int .i64 r2, .bool r3, .int .i64 r4, .int .i64 r5, .int .i64 r6, .bool r7, .int .i64 r8, .int .i64 r9], u5, .bool false, .int .i64 0]) ?_ rfl ?_
    · refine Ch.results_ctttt (fn := Try.f18) (p := 4) (q := 5) (r := 6) (s := 7) (ty := 24) rfl _ _ (w.heap.size + 1 + 1) 24 #[.int .i64 r1, .int .i64 r2, .bool r3, .int .i64 r4, .int .i64 r5, .int .i64 r6, .bool r7, .int .i64 r8, .int .i64 r9] (0, 0) _ rfl (Tk.put9 BN.out) Try.underlying24 rfl (by kernel_rfl)
    · exact ⟨u5, rfl, Tk.R9 H9.out BN.out (by decide), Tk.below9 HB.out (by omega)⟩
set_option maxHeartbeats 4000000 in
set_option maxRecDepth 100000 in
theorem take_bad (k : Nat) (a0_0 a0_1 : Int) (a0_2 : Bool) (a0_3 a0_4 a0_5 : Int) (a0_6 : Bool) (a0_7 a0_8 : Int) (r1 r2 : Int) (r3 : Bool) (r4 r5 r6 : Int) (r7 : Bool) (r8 r9 : Int) (r10 : Bool) (a1_0 : Int) (A1_1 : Option Addr) (c1_1 : Nat) (l1_1 : List Int) (n1 n2 : Int) (n3 : List Int) (n4 : Int) (w : World) (hr1_1 : Kd.C (Kd.int .u8) w A1_1 l1_1.length l1_1) (hc1_1 : l1_1.length ≤ c1_1)
  (hn : drv_Next.f a0_0 a0_1 a0_2 a0_3 a0_4 a0_5 a0_6 a0_7 a0_8 = some (n1, n2, n3, n4, true, 0)) (hg : drv_good.f k a0_0 a0_1 a0_2 a0_3 a0_4 a0_5 a0_6 a0_7 a0_8 n1 n2 n3 n4 a1_0 l1_1 = some false) (hc : drv_bad.f a0_0 a0_1 a0_2 a0_3 a0_4 a0_5 a0_6 a0_7 a0_8 = some (r1, r2, r3, r4, r5, r6, r7, r8, r9, r10)) :
    Calls Try.prog 18 #[.agg #[.int .i64 a0_0, .int .i64 a0_1, .bool a0_2, .int .i64 a0_3, .int .i64 a0_4, .int .i64 a0_5, .bool a0_6, .int .i64 a0_7, .int .i64 a0_8], .agg #[.int .i64 a1_0, .slice A1_1 l1_1.length c1_1]] w fun e w' => ∃ v9_ : Value, e = .returned (.tuple #[.agg #[.int .i64 r1, .int .i64 r2, .bool r3, .int .i64 r4, .int .i64 r5, .int .i64 r6, .bool r7, .int .i64 r8, .int .i64 r9], v9_, .bool r10, .int .i64 0]) ∧ Kd.R k55 55 w' w.heap.size (fun _ => True) v9_ ([] : List (S55)) ∧ Below w.heap.size w w' := by
  have HR := Aside0.mk hr1_1
  have HC := Aside0.mk hc1_1
  have HN := Aside0.mk hn
  have HG := Aside0.mk hg
  have HCL := Aside0.mk hc
  clear hr1_1 hc1_1 hn hg hc
  have hmk := take_mk
  go_enter Try.func18, Try.ntmps18
  go_upto_region 8 with (first | (go_at_call 9; (with_reducible refine (drv_Next.calls _ _ _ _ _ _ _ _ _ _ _ _ _ _ _ _ HN.out).mono ?_); rintro e w1 ⟨sv, rfl, hsv, hb1⟩; obtain ⟨A3, c3, rfl⟩ := Kd.R_slice hsv; have HSV := Aside0.mk hsv; obtain ⟨hD, hA, hN, hB, z1, z2, z3, z4, z5, z6⟩ := Tk.three hb1; have BKD := Aside0.mk hD; have BKA := Aside0.mk hA; have BKN := Aside0.mk hN; have HB1 := Aside0.mk hB; clear hsv hb1 hD hA hN hB; obtain ⟨hd0, hd1, hd2, hd3, hd4, hd5, hd6, hd7, hd8⟩ := Sq.c9 BKD.out; obtain ⟨ha0, ha1⟩ := Sq.c2 BKA.out) | (go_at_call 35; (with_reducible refine (drv_good.calls k _ _ _ _ _ _ _ _ _ _ _ _ _ _ _ _ _ _ _ _ _ (Kd.C_alloc (Kd.C_alloc (Kd.R_reads' HSV.out).2.2 _) _) (Kd.R_reads' HSV.out).2.1 (Kd.C_alloc (Kd.C_alloc (Kd.C_below HR.out HB1.out) _) _) HC.out HG.out).mono ?_); rintro e w2 ⟨rfl, hb2⟩; have BKC := Aside0.mk (blk_below (blk_new (w1.alloc (.cells #[.int .i64 n1, .int .i64 n2, .slice A3 n3.length c3, .int .i64 n4] 31 (0, 0))) (.chan 1 #[] false 0 0 false)) hb2); simp only [World.size_alloc] at BKC; have BD2 := Aside0.mk (blk_below (blk_alloc (blk_alloc BKD.out _) _) hb2); have BA2 := Aside0.mk (blk_below (blk_alloc (blk_alloc BKA.out _) _) hb2); have BN2 := Aside0.mk (blk_below (blk_alloc (blk_alloc BKN.out _) _) hb2); have HB2 := Aside0.mk (below_step (below_alloc (below_alloc HB1.out _) _) hb2); clear hb2; have hg2 := HB1.out.size; have hw2 : w.heap.size ≤ w1.heap.size + 1 := (by omega); clear hg2 hd0 hd1 hd2 hd3 hd4 hd5 hd6 hd7 hd8 ha0 ha1 z1 z2 z3 z4 z5 z6 BKD BKA BKN; obtain ⟨ha0, ha1⟩ := Sq.c2 BA2.out))
  refine Ch.wp_region_from ?_
  refine Ch.FromL.comm (w1 := w2) rfl ?rn (Ch.Comm.empty (w1.heap.size + 1) 1 #[] 0 0 false (.agg #[.int .i64 0, .slice none 0 0]) BKC.out rfl) ?_
  case rn =>
    simp only [execOp]
    simp [take_zero]
    rfl
  refine Ch.FromL.ops ?_
  simp only [Act.put, List.setIfInBounds_toArray, List.set_cons_zero, List.set_cons_succ]
  clear hmk HSV HG HN HB1 BKC ha0 ha1
  have hGE : w.heap.size ≤ w.heap.size + 1 + 1 := by omega
  go_upto_block 0 with (fail)
  go_cut [5, 6] (fun v5 v6 wc => v5 = .slice none 0 0 ∧ v6 = .bool r10 ∧ Aside0 (wc.heap[w.heap.size + 1 + 1]? = some (.cells #[.int .i64 r1, .int .i64 r2, .bool r3, .int .i64 r4, .int .i64 r5, .int .i64 r6, .bool r7, .int .i64 r8, .int .i64 r9] 24 (0, 0))) ∧ Aside0 (Below w.heap.size w wc))
  case first =>
    obtain ⟨hd0, hd1, hd2, hd3, hd4, hd5, hd6, hd7, hd8⟩ := Sq.c9 BD2.out
    go_wp2_with (first | (go_at_call 36; ((with_reducible refine (drv_bad.calls _ _ _ _ _ _ _ _ _ _ _ _ _ _ _ _ _ _ _ _ HCL.out).mono ?_); rintro e' w7 ⟨rfl, hb7⟩; have HB7 := Aside0.mk (below_step HB2.out hb7); have BN7 := Aside0.mk (blk_below BN2.out hb7); clear hb7; obtain ⟨hn0, hn1, hn2, hn3, hn4, hn5, hn6, hn7, hn8⟩ := Sq.c9 BN7.out; obtain ⟨hfn0, hfn1, hfn2, hfn3, hfn4, hfn5, hfn6, hfn7, hfn8⟩ := Sq.f9 BN7.out)))
    go_meet
    case rel => exact ⟨rfl, rfl, ⟨Tk.put9 BN7.out⟩, ⟨Tk.below9 HB7.out hGE⟩⟩
  case rest =>
    obtain ⟨rfl, rfl, BN, HB⟩ := hcut
    obtain ⟨hn0, hn1, hn2, hn3, hn4, hn5, hn6, hn7, hn8⟩ := Sq.c9 BN.out
    obtain ⟨hfn0, hfn1, hfn2, hfn3, hfn4, hfn5, hfn6, hfn7, hfn8⟩ := Sq.f9 BN.out
    go_wp2
    refine bodyPost_ret (v := .tuple #[.agg #[.int .i64 r1, .int .i64 r2, .bool r3, .int .i64 r4, .int .i64 r5, .int .i64 r6, .bool r7, .int .i64 r8, .int .i64 r9], .slice none 0 0, .bool r10, .int .i64 0]) ?_ rfl ?_
    · refine Ch.results_ctttt (fn := Try.f18) (p := 4) (q := 5) (r := 6) (s := 7) (ty := 24) rfl _ _ (w.heap.size + 1 + 1) 24 #[.int .i64 r1, .int .i64 r2, .bool r3, .int .i64 r4, .int .i64 r5, .int .i64 r6, .bool r7, .int .i64 r8, .int .i64 r9] (0, 0) _ rfl (Tk.put9 BN.out) Try.underlying24 rfl (by kernel_rfl)
    · exact ⟨_, rfl, Kd.R_nil _ _ _ _ _, Tk.below9 HB.out hGE⟩
set_option maxHeartbeats 4000000 in
set_option maxRecDepth 100000 in
theorem take_err (er : Int) (a0_0 a0_1 : Int) (a0_2 : Bool) (a0_3 a0_4 a0_5 : Int) (a0_6 : Bool) (a0_7 a0_8 : Int) (a1_0 : Int) (A1_1 : Option Addr) (c1_1 : Nat) (l1_1 : List Int) (w : World) (he : er = 0 ∨ er = 1)
  (hn : drv_Next.f a0_0 a0_1 a0_2 a0_3 a0_4 a0_5 a0_6 a0_7 a0_8 = some (0, 0, [], 0, false, er)) :
    Calls Try.prog 18 #[.agg #[.int .i64 a0_0, .int .i64 a0_1, .bool a0_2, .int .i64 a0_3, .int .i64 a0_4, .int .i64 a0_5, .bool a0_6, .int .i64 a0_7, .int .i64 a0_8], .agg #[.int .i64 a1_0, .slice A1_1 l1_1.length c1_1]] w fun e w' => ∃ v9_ : Value, e = .returned (.tuple #[.agg #[.int .i64 0, .int .i64 0, .bool false, .int .i64 0, .int .i64 0, .int .i64 0, .bool false, .int .i64 0, .int .i64 0], v9_, .bool false, .int .i64 1]) ∧ Kd.R k55 55 w' w.heap.size (fun _ => True) v9_ ([] : List (S55)) ∧ Below w.heap.size w w' := by
  have HN := Aside0.mk hn
  clear hn
  rcases he with rfl | rfl
  all_goals
    go_enter Try.func18, Try.ntmps18
    go_wp2_with (first | (go_at_call 9; (with_reducible refine (drv_Next.calls _ _ _ _ _ _ _ _ _ _ _ _ _ _ _ _ HN.out).mono ?_); rintro e w1 ⟨sv, rfl, hsv, hb1⟩; obtain ⟨A3, c3, rfl⟩ := Kd.R_slice hsv; have HSV := Aside0.mk hsv; obtain ⟨hD, hA, hN, hB, z1, z2, z3, z4, z5, z6⟩ := Tk.three hb1; have BKD := Aside0.mk hD; have BKA := Aside0.mk hA; have BKN := Aside0.mk hN; have HB1 := Aside0.mk hB; clear hsv hb1 hD hA hN hB; obtain ⟨hn0, hn1, hn2, hn3, hn4, hn5, hn6, hn7, hn8⟩ := Sq.c9 BKN.out; obtain ⟨hfn0, hfn1, hfn2, hfn3, hfn4, hfn5, hfn6, hfn7, hfn8⟩ := Sq.f9 BKN.out))
    refine bodyPost_ret (v := .tuple #[.agg #[.int .i64 0, .int .i64 0, .bool false, .int .i64 0, .int .i64 0, .int .i64 0, .bool false, .int .i64 0, .int .i64 0], .slice none 0 0, .bool false, .int .i64 1]) ?_ rfl ?_
    · refine Ch.results_ctttt (fn := Try.f18) (p := 4) (q := 5) (r := 6) (s := 7) (ty := 24) rfl _ _ (w.heap.size + 1 + 1) 24 #[.int .i64 0, .int .i64 0, .bool false, .int .i64 0, .int .i64 0, .int .i64 0, .bool false, .int .i64 0, .int .i64 0] (0, 0) _ rfl (blk_alloc (Tk.put9 BKN.out) _) Try.underlying24 rfl (by kernel_rfl)
    · exact ⟨_, rfl, Kd.R_nil _ _ _ _ _, below_alloc (Tk.below9 HB1.out (by omega)) _⟩
def drv_row.f (k : Nat) (a0_0 : Int) (a0_1 : Int) (a0_2 : Bool) (a0_3 : Int) (a0_4 : Int) (a0_5 : Int) (a0_6 : Bool) (a0_7 : Int) (a0_8 : Int) (l1 : List Int) : Option (Int × Int × Bool × Int × Int × Int × Bool × Int × Int × List (S55)) :=
  if a0_4 = 4 then drv_counted.f a0_0 a0_1 a0_2 a0_3 a0_4 a0_5 a0_6 a0_7 a0_8 l1 else if a0_4 = 5 then drv_samples.f k a0_0 a0_1 a0_2 a0_3 a0_4 a0_5 a0_6 a0_7 a0_8 l1 else if a0_4 = 6 then some (a0_0, a0_1, a0_2, a0_3, 0, a0_5, false, a0_7, a0_8, []) else if a0_4 = 7 then drv_again.f a0_0 a0_1 a0_2 a0_3 a0_4 a0_5 a0_6 a0_7 a0_8 l1 else drv_next.f a0_0 a0_1 a0_2 a0_3 a0_4 a0_5 a0_6 a0_7 a0_8 l1
def drv_Take.f (k : Nat) (a0_0 : Int) (a0_1 : Int) (a0_2 : Bool) (a0_3 : Int) (a0_4 : Int) (a0_5 : Int) (a0_6 : Bool) (a0_7 : Int) (a0_8 : Int) (a1_0 : Int) (l1_1 : List Int) : Option (Int × Int × Bool × Int × Int × Int × Bool × Int × Int × List (S55) × Bool × Int) :=
  (drv_Next.f a0_0 a0_1 a0_2 a0_3 a0_4 a0_5 a0_6 a0_7 a0_8).bind fun n => if n.2.2.2.2.1 = true then ((drv_good.f k a0_0 a0_1 a0_2 a0_3 a0_4 a0_5 a0_6 a0_7 a0_8 n.1 n.2.1 n.2.2.1 n.2.2.2.1 a1_0 l1_1).bind fun g => if g = true then ((drv_row.f k a0_0 a0_1 a0_2 a0_3 a0_4 0 a0_6 a0_7 a0_8 l1_1).bind fun r => some (r.1, r.2.1, r.2.2.1, r.2.2.2.1, r.2.2.2.2.1, r.2.2.2.2.2.1, r.2.2.2.2.2.2.1, r.2.2.2.2.2.2.2.1, r.2.2.2.2.2.2.2.2.1, r.2.2.2.2.2.2.2.2.2, false, 0)) else ((drv_bad.f a0_0 a0_1 a0_2 a0_3 a0_4 a0_5 a0_6 a0_7 a0_8).bind fun r => some (r.1, r.2.1, r.2.2.1, r.2.2.2.1, r.2.2.2.2.1, r.2.2.2.2.2.1, r.2.2.2.2.2.2.1, r.2.2.2.2.2.2.2.1, r.2.2.2.2.2.2.2.2.1, [], r.2.2.2.2.2.2.2.2.2, 0))) else some (0, 0, false, 0, 0, 0, false, 0, 0, [], false, 1)
theorem drv_row.mono : ∀ a0 a1 a2 a3 a4 a5 a6 a7 a8 a9 k, LeO (drv_row.f k a0 a1 a2 a3 a4 a5 a6 a7 a8 a9) (drv_row.f (k + 1) a0 a1 a2 a3 a4 a5 a6 a7 a8 a9) := by
  intro a0 a1 a2 a3 a4 a5 a6 a7 a8 a9 k
  unfold drv_row.f
  repeat' first
      | (with_reducible exact drv_samples.mono _ _ _ _ _ _ _ _ _ _ _)
      | (with_reducible exact LeO.refl _)
      | (with_reducible refine LeO.ite ?_ ?_)
theorem drv_Take.mono : ∀ a0 a1 a2 a3 a4 a5 a6 a7 a8 a9 a10 k, LeO (drv_Take.f k a0 a1 a2 a3 a4 a5 a6 a7 a8 a9 a10) (drv_Take.f (k + 1) a0 a1 a2 a3 a4 a5 a6 a7 a8 a9 a10) := by
  intro a0 a1 a2 a3 a4 a5 a6 a7 a8 a9 a10 k
  unfold drv_Take.f
  repeat' first
      | (with_reducible exact drv_row.mono _ _ _ _ _ _ _ _ _ _ _)
      | (with_reducible exact drv_good.mono _ _ _ _ _ _ _ _ _ _ _ _ _ _ _ _)
      | (with_reducible exact LeO.refl _)
      | (with_reducible refine LeO.ite ?_ ?_)
      | (with_reducible refine LeO.bind ?_ (fun _ => ?_))
theorem drv_Next.tells (a0_0 a0_1 : Int) (a0_2 : Bool) (a0_3 a0_4 a0_5 : Int) (a0_6 : Bool) (a0_7 a0_8 : Int) (n : Int × Int × List Int × Int × Bool × Int) (h : drv_Next.f a0_0 a0_1 a0_2 a0_3 a0_4 a0_5 a0_6 a0_7 a0_8 = some n) :
    (n = (0, 0, [], 0, false, 1)) ∨ (n = (0, 0, [], 0, false, 0)) ∨ ((∃ n1 n2 n3 n4, n = (n1, n2, n3, n4, true, 0)) ∧ (a0_4 = 1 ∨ a0_4 = 2 ∨ a0_4 = 3 ∨ a0_4 = 4 ∨ a0_4 = 5 ∨ a0_4 = 6 ∨ a0_4 = 7)) := by
  unfold drv_Next.f at h
  have h' := Option.some.inj h
  clear h
  by_cases hg : Dr.goodD a0_0 a0_1 a0_3 a0_4 a0_5 a0_7 a0_8 = true
  · rw [if_pos hg] at h'
    have hc := Dr.goodD_iff hg
    have hcase : a0_4 = 0 ∨ a0_4 = 1 ∨ a0_4 = 2 ∨ a0_4 = 3 ∨ a0_4 = 4 ∨ a0_4 = 5 ∨ a0_4 = 6 ∨ a0_4 = 7 ∨ a0_4 = 8 := by omega
    clear hc
    rcases hcase with rfl | rfl | rfl | rfl | rfl | rfl | rfl | rfl | rfl
    · exact .inr (.inl h'.symm)
    all_goals first
      | exact .inr (.inl h'.symm)
      | exact .inr (.inr ⟨⟨_, _, _, _, h'.symm⟩, by decide⟩)
  · rw [if_neg hg] at h'
    exact .inl h'.symm
set_option maxHeartbeats 4000000 in
theorem drv_Take.calls (k : Nat) (a0_0 : Int) (a0_1 : Int) (a0_2 : Bool) (a0_3 : Int) (a0_4 : Int) (a0_5 : Int) (a0_6 : Bool) (a0_7 : Int) (a0_8 : Int) (a1_0 : Int) (A1_1 : Option Addr) (c1_1 : Nat) (l1_1 : List Int) (r1 r2 : Int) (r3 : Bool) (r4 r5 r6 : Int) (r7 : Bool) (r8 r9 : Int) (r10 : List (S55)) (r11 : Bool) (r12 : Int) (w : World) (hr1_1 : Kd.C (Kd.int .u8) w A1_1 l1_1.length l1_1) (hc1_1 : l1_1.length ≤ c1_1) (h : drv_Take.f k a0_0 a0_1 a0_2 a0_3 a0_4 a0_5 a0_6 a0_7 a0_8 a1_0 l1_1 = some (r1, r2, r3, r4, r5, r6, r7, r8, r9, r10, r11, r12)) :
    Calls Try.prog 18 #[.agg #[.int .i64 a0_0, .int .i64 a0_1, .bool a0_2, .int .i64 a0_3, .int .i64 a0_4, .int .i64 a0_5, .bool a0_6, .int .i64 a0_7, .int .i64 a0_8], .agg #[.int .i64 a1_0, .slice A1_1 l1_1.length c1_1]] w fun e w' => ∃ v9_ : Value, e = .returned (.tuple #[.agg #[.int .i64 r1, .int .i64 r2, .bool r3, .int .i64 r4, .int .i64 r5, .int .i64 r6, .bool r7, .int .i64 r8, .int .i64 r9], v9_, .bool r11, .int .i64 r12]) ∧ Kd.R k55 55 w' w.heap.size (fun _ => True) v9_ r10 ∧ Below w.heap.size w w' := by
  unfold drv_Take.f at h
  obtain ⟨n, hn, h⟩ := Option.bind_eq_some_iff.mp h
  rcases drv_Next.tells _ _ _ _ _ _ _ _ _ _ hn with rfl | rfl | ⟨⟨n1, n2, n3, n4, rfl⟩, hst⟩
  · rw [if_neg (by decide)] at h
    simp only [Option.some.injEq, Prod.mk.injEq] at h
    obtain ⟨rfl, rfl, rfl, rfl, rfl, rfl, rfl, rfl, rfl, rfl, rfl, rfl⟩ := h
    exact take_err 1 a0_0 a0_1 a0_2 a0_3 a0_4 a0_5 a0_6 a0_7 a0_8 _ _ _ _ w (.inr rfl) hn
  · rw [if_neg (by decide)] at h
    simp only [Option.some.injEq, Prod.mk.injEq] at h
    obtain ⟨rfl, rfl, rfl, rfl, rfl, rfl, rfl, rfl, rfl, rfl, rfl, rfl⟩ := h
    exact take_err 0 a0_0 a0_1 a0_2 a0_3 a0_4 a0_5 a0_6 a0_7 a0_8 _ _ _ _ w (.inl rfl) hn
  · rw [if_pos rfl] at h
    obtain ⟨g, hg, h⟩ := Option.bind_eq_some_iff.mp h
    cases g with
    | false =>
      rw [if_neg (by decide)] at h
      obtain ⟨⟨s1, s2, s3, s4, s5, s6, s7, s8, s9, s10⟩, hb, h⟩ := Option.bind_eq_some_iff.mp h
      simp only [Option.some.injEq, Prod.mk.injEq] at h
      obtain ⟨rfl, rfl, rfl, rfl, rfl, rfl, rfl, rfl, rfl, rfl, rfl, rfl⟩ := h
      exact take_bad k a0_0 a0_1 a0_2 a0_3 a0_4 a0_5 a0_6 a0_7 a0_8 _ _ _ _ _ _ _ _ _ _ _ _ _ _ _ _ _ _ w hr1_1 hc1_1 hn hg hb
    | true =>
      rw [if_pos rfl] at h
      obtain ⟨⟨s1, s2, s3, s4, s5, s6, s7, s8, s9, s10⟩, hb, h⟩ := Option.bind_eq_some_iff.mp h
      simp only [Option.some.injEq, Prod.mk.injEq] at h
      obtain ⟨rfl, rfl, rfl, rfl, rfl, rfl, rfl, rfl, rfl, rfl, rfl, rfl⟩ := h
      unfold drv_row.f at hb
      rcases hst with rfl | rfl | rfl | rfl | rfl | rfl | rfl
      · rw [if_neg (by decide), if_neg (by decide), if_neg (by decide), if_neg (by decide)] at hb
        exact take_next k _ _ _ _ _ _ _ _ _ _ _ _ _ _ _ _ _ _ _ _ _ _ _ _ _ _ _ w hr1_1 hc1_1 hn hg (fun n => ⟨0, _, rfl⟩) hb
      · rw [if_neg (by decide), if_neg (by decide), if_neg (by decide), if_neg (by decide)] at hb
        exact take_next k _ _ _ _ _ _ _ _ _ _ _ _ _ _ _ _ _ _ _ _ _ _ _ _ _ _ _ w hr1_1 hc1_1 hn hg (fun n => ⟨1, _, rfl⟩) hb
      · rw [if_neg (by decide), if_neg (by decide), if_neg (by decide), if_neg (by decide)] at hb
        exact take_next k _ _ _ _ _ _ _ _ _ _ _ _ _ _ _ _ _ _ _ _ _ _ _ _ _ _ _ w hr1_1 hc1_1 hn hg (fun n => ⟨2, _, rfl⟩) hb
      · rw [if_pos rfl] at hb
        exact take_counted k _ _ _ _ _ _ _ _ _ _ _ _ _ _ _ _ _ _ _ _ _ _ _ _ _ _ _ w hr1_1 hc1_1 hn hg (fun n => ⟨3, _, rfl⟩) hb
      · rw [if_neg (by decide), if_pos rfl] at hb
        exact take_samples k _ _ _ _ _ _ _ _ _ _ _ _ _ _ _ _ _ _ _ _ _ _ _ _ _ _ _ w hr1_1 hc1_1 hn hg (fun n => ⟨4, _, rfl⟩) hb
      · rw [if_neg (by decide), if_neg (by decide), if_pos rfl] at hb
        exact take_becomes k _ _ _ _ _ _ _ _ _ _ _ _ _ _ _ _ _ _ _ _ _ _ _ _ _ _ _ w hr1_1 hc1_1 hn hg (fun n => ⟨5, _, rfl⟩) (Option.some.inj hb)
      · rw [if_neg (by decide), if_neg (by decide), if_neg (by decide), if_pos rfl] at hb
        exact take_again k _ _ _ _ _ _ _ _ _ _ _ _ _ _ _ _ _ _ _ _ _ _ _ _ _ _ _ w hr1_1 hc1_1 hn hg (fun n => ⟨6, _, rfl⟩) hb

/-! ### gimbalref8_in: function 37 -/
def gimbalref8_in.f (a0 : Int) (a1 : Int) (a2 : Int) : Option (Bool) := if a0 ≥ a1 then (some (decide (a0 ≤ a2))) else (some false)
set_option maxHeartbeats 8000000 in
set_option maxRecDepth 100000 in
theorem gimbalref8_in.calls (a0 : Int) (a1 : Int) (a2 : Int) (r : Bool) (w : World) (h : gimbalref8_in.f a0 a1 a2 = some r) :
    Calls Try.prog 37 #[.int .i64 a0, .int .i64 a1, .int .i64 a2] w fun e w' => e = .returned (.bool r) ∧ Drawn0 w w' := by
  have H : (if a0 ≥ a1 then (some (decide (a0 ≤ a2))) else (some false)) = some r := h
  clear h
  by_cases c4 : a0 ≥ a1
  · rw [if_pos c4] at H
    have c4b0 : decide (a1 ≤ a0) = true := decide_eq_true c4
    clear c4
    obtain rfl := Option.some.inj H
    go_enter Try.func37, Try.ntmps37
    go_wp2
    go_ret
    exact ⟨by first | rfl | (simp; done) | (simp [*]; done), by repeat (first | exact Drawn0.refl _ | apply Drawn0.step)⟩
  · rw [if_neg c4] at H
    have c4b0 : decide (a1 ≤ a0) = false := decide_eq_false c4
    clear c4
    obtain rfl := Option.some.inj H
    go_enter Try.func37, Try.ntmps37
    go_wp2
    go_ret
    exact ⟨by first | rfl | (simp; done) | (simp [*]; done), by repeat (first | exact Drawn0.refl _ | apply Drawn0.step)⟩

/-! ### gimbalref8_MayRaw: function 19 -/
def gimbalref8_MayRaw.f (a0_0 : Int) (a0_1 : Int) (a0_2 : Int) (a0_3 : Int) : Option (Bool) := (gimbalref8_in.f a0_0 (-32768) 32767).bind fun t161 => (if t161 = true then ((gimbalref8_in.f a0_1 (-32768) 32767).bind fun t162 => (if t162 = true then ((gimbalref8_in.f a0_2 (-32768) 32767).bind fun t163 => (if t163 = true then ((gimbalref8_in.f a0_3 (-128) 127).bind fun t164 => (some t164)) else (some false))) else (some false))) else (some false))
set_option maxHeartbeats 8000000 in
set_option maxRecDepth 100000 in
theorem gimbalref8_MayRaw.calls (a0_0 : Int) (a0_1 : Int) (a0_2 : Int) (a0_3 : Int) (r : Bool) (w : World) (h : gimbalref8_MayRaw.f a0_0 a0_1 a0_2 a0_3 = some r) :
    Calls Try.prog 19 #[.agg #[.int .i64 a0_0, .int .i64 a0_1, .int .i64 a0_2, .int .i64 a0_3]] w fun e w' => e = .returned (.bool r) ∧ Below w.heap.size w w' := by
  have hu55 := Try.underlying55
  have HB := Aside0.mk (Below.refl w.heap.size w)
  have H : ((gimbalref8_in.f a0_0 (-32768) 32767).bind fun t161 => (if t161 = true then ((gimbalref8_in.f a0_1 (-32768) 32767).bind fun t162 => (if t162 = true then ((gimbalref8_in.f a0_2 (-32768) 32767).bind fun t163 => (if t163 = true then ((gimbalref8_in.f a0_3 (-128) 127).bind fun t164 => (some t164)) else (some false))) else (some false))) else (some false))) = some r := h
  clear h
  replace H := Option.bind_eq_some_iff.mp H
  obtain ⟨t161, A20, H⟩ := H
  replace H : (if t161 = true then ((gimbalref8_in.f a0_1 (-32768) 32767).bind fun t162 => (if t162 = true then ((gimbalref8_in.f a0_2 (-32768) 32767).bind fun t163 => (if t163 = true then ((gimbalref8_in.f a0_3 (-128) 127).bind fun t164 => (some t164)) else (some false))) else (some false))) else (some false)) = some r := H
  have A2 := Aside0.mk A20
  clear A20
  by_cases c3 : t161 = true
  · subst c3
    have H1 : ((gimbalref8_in.f a0_1 (-32768) 32767).bind fun t162 => (if t162 = true then ((gimbalref8_in.f a0_2 (-32768) 32767).bind fun t163 => (if t163 = true then ((gimbalref8_in.f a0_3 (-128) 127).bind fun t164 => (some t164)) else (some false))) else (some false))) = some r := by rw [if_pos rfl] at H; exact H
    clear H
    have H := H1
    clear H1
    replace H := Option.bind_eq_some_iff.mp H
    obtain ⟨t162, A40, H⟩ := H
    replace H : (if t162 = true then ((gimbalref8_in.f a0_2 (-32768) 32767).bind fun t163 => (if t163 = true then ((gimbalref8_in.f a0_3 (-128) 127).bind fun t164 => (some t164)) else (some false))) else (some false)) = some r := H
    have A4 := Aside0.mk A40
    clear A40
    by_cases c5 : t162 = true
    · subst c5
      have H1 : ((gimbalref8_in.f a0_2 (-32768) 32767).bind fun t163 => (if t163 = true then ((gimbalref8_in.f a0_3 (-128) 127).bind fun t164 => (some t164)) else (some false))) = some r := by rw [if_pos rfl] at H; exact H
      clear H
      have H := H1
      clear H1
      replace H := Option.bind_eq_some_iff.mp H
      obtain ⟨t163, A60, H⟩ := H
      replace H : (if t163 = true then ((gimbalref8_in.f a0_3 (-128) 127).bind fun t164 => (some t164)) else (some false)) = some r := H
      have A6 := Aside0.mk A60
      clear A60
      by_cases c7 : t163 = true
      · subst c7
        have H1 : ((gimbalref8_in.f a0_3 (-128) 127).bind fun t164 => (some t164)) = some r := by rw [if_pos rfl] at H; exact H
        clear H
        have H := H1
        clear H1
        replace H := Option.bind_eq_some_iff.mp H
        obtain ⟨t164, A80, H⟩ := H
        replace H : (some t164) = some r := H
        have A8 := Aside0.mk A80
        clear A80
        obtain rfl := Option.some.inj H
        go_enter Try.func19, Try.ntmps19
        go_wp2_with (first | ((with_reducible refine gate_dst (N := 1) rfl ?_); refine box_event ?hg (N := 1) ?hd (cs := #[.int .i64 a0_0, .int .i64 a0_1, .int .i64 a0_2, .int .i64 a0_3]) (t := 55) ?hr ?_; (case hd => rfl); (case hg => rfl); (case hr => first | (go_simp; done) | (go_simp; rfl)); intro gb160 hg w9 hbox hb; have n0_ := Aside0.mk (below_step (Sq.w HB.out) hb); have n1_ := Aside0.mk (hbox); have n2_ := Aside0.mk ((by rw [hg]; exact (below_size (Sq.w HB.out)) : w.heap.size ≤ gb160)); have n3_ := Aside0.mk ((by rw [hg]; exact (below_size (Sq.w HB.out)) : w.heap.size ≤ gb160)); clear HB; have HB := n0_; have BK160 := n1_; have GW160 := n2_; have GE160 := n3_; clear n0_ n1_ n2_ n3_; clear hb hbox hg; obtain ⟨hcz10_0, hcz10_1, hcz10_2, hcz10_3⟩ := Sq.c4 BK160.out; obtain ⟨hfz10_0, hfz10_1, hfz10_2, hfz10_3⟩ := Sq.f4 BK160.out) | ((with_reducible refine gate_callee (f := 37) rfl ?_); refine goesL_ (some 5) rfl rfl Try.func37 (by kernel_rfl) rfl #[.int .i64 a0_0, .int .i64 (-32768), .int .i64 32767] rfl (by (try simp only [List.map_toArray, List.map_cons, List.map_nil]); first | done | rfl | (simp only [List.length_drop, List.length_take]; rfl)) ?_; (with_reducible refine (gimbalref8_in.calls a0_0 (-32768) 32767 true _ A2.out).mono ?_); rintro e w' ⟨rfl, ⟨nd, rfl⟩⟩; refine ⟨_, rfl, ?_⟩) | (go_at_call 37; (with_reducible refine (gimbalref8_in.calls a0_1 (-32768) 32767 true _ A4.out).mono ?_); rintro e w' ⟨rfl, ⟨nd, rfl⟩⟩) | (go_at_call 37; (with_reducible refine (gimbalref8_in.calls a0_2 (-32768) 32767 true _ A6.out).mono ?_); rintro e w' ⟨rfl, ⟨nd, rfl⟩⟩) | (go_at_call 37; (with_reducible refine (gimbalref8_in.calls a0_3 (-128) 127 t164 _ A8.out).mono ?_); rintro e w' ⟨rfl, ⟨nd, rfl⟩⟩))
        go_ret
        exact ⟨by first | rfl | (simp [errW_none, errW_some] <;> rfl) | (simp [*, errW_none, errW_some] <;> rfl), Sq.w HB.out⟩
      · replace c7 := Bool.eq_false_iff.mpr c7
        subst c7
        have H1 : (some false) = some r := by rw [if_neg (show ¬ (false = true) by decide)] at H; exact H
        clear H
        have H := H1
        clear H1
        obtain rfl := Option.some.inj H
        go_enter Try.func19, Try.ntmps19
        go_wp2_with (first | ((with_reducible refine gate_dst (N := 1) rfl ?_); refine box_event ?hg (N := 1) ?hd (cs := #[.int .i64 a0_0, .int .i64 a0_1, .int .i64 a0_2, .int .i64 a0_3]) (t := 55) ?hr ?_; (case hd => rfl); (case hg => rfl); (case hr => first | (go_simp; done) | (go_simp; rfl)); intro gb160 hg w11 hbox hb; have n0_ := Aside0.mk (below_step (Sq.w HB.out) hb); have n1_ := Aside0.mk (hbox); have n2_ := Aside0.mk ((by rw [hg]; exact (below_size (Sq.w HB.out)) : w.heap.size ≤ gb160)); have n3_ := Aside0.mk ((by rw [hg]; exact (below_size (Sq.w HB.out)) : w.heap.size ≤ gb160)); clear HB; have HB := n0_; have BK160 := n1_; have GW160 := n2_; have GE160 := n3_; clear n0_ n1_ n2_ n3_; clear hb hbox hg; obtain ⟨hcz12_0, hcz12_1, hcz12_2, hcz12_3⟩ := Sq.c4 BK160.out; obtain ⟨hfz12_0, hfz12_1, hfz12_2, hfz12_3⟩ := Sq.f4 BK160.out) | ((with_reducible refine gate_callee (f := 37) rfl ?_); refine goesL_ (some 5) rfl rfl Try.func37 (by kernel_rfl) rfl #[.int .i64 a0_0, .int .i64 (-32768), .int .i64 32767] rfl (by (try simp only [List.map_toArray, List.map_cons, List.map_nil]); first | done | rfl | (simp only [List.length_drop, List.length_take]; rfl)) ?_; (with_reducible refine (gimbalref8_in.calls a0_0 (-32768) 32767 true _ A2.out).mono ?_); rintro e w' ⟨rfl, ⟨nd, rfl⟩⟩; refine ⟨_, rfl, ?_⟩) | (go_at_call 37; (with_reducible refine (gimbalref8_in.calls a0_1 (-32768) 32767 true _ A4.out).mono ?_); rintro e w' ⟨rfl, ⟨nd, rfl⟩⟩) | (go_at_call 37; (with_reducible refine (gimbalref8_in.calls a0_2 (-32768) 32767 false _ A6.out).mono ?_); rintro e w' ⟨rfl, ⟨nd, rfl⟩⟩))
        go_ret
        exact ⟨by first | rfl | (simp [errW_none, errW_some] <;> rfl) | (simp [*, errW_none, errW_some] <;> rfl), Sq.w HB.out⟩
    · replace c5 := Bool.eq_false_iff.mpr c5
      subst c5
      have H1 : (some false) = some r := by rw [if_neg (show ¬ (false = true) by decide)] at H; exact H
      clear H
      have H := H1
      clear H1
      obtain rfl := Option.some.inj H
      go_enter Try.func19, Try.ntmps19
      go_wp2_with (first | ((with_reducible refine gate_dst (N := 1) rfl ?_); refine box_event ?hg (N := 1) ?hd (cs := #[.int .i64 a0_0, .int .i64 a0_1, .int .i64 a0_2, .int .i64 a0_3]) (t := 55) ?hr ?_; (case hd => rfl); (case hg => rfl); (case hr => first | (go_simp; done) | (go_simp; rfl)); intro gb160 hg w13 hbox hb; have n0_ := Aside0.mk (below_step (Sq.w HB.out) hb); have n1_ := Aside0.mk (hbox); have n2_ := Aside0.mk ((by rw [hg]; exact (below_size (Sq.w HB.out)) : w.heap.size ≤ gb160)); have n3_ := Aside0.mk ((by rw [hg]; exact (below_size (Sq.w HB.out)) : w.heap.size ≤ gb160)); clear HB; have HB := n0_; have BK160 := n1_; have GW160 := n2_; have GE160 := n3_; clear n0_ n1_ n2_ n3_; clear hb hbox hg; obtain ⟨hcz14_0, hcz14_1, hcz14_2, hcz14_3⟩ := Sq.c4 BK160.out; obtain ⟨hfz14_0, hfz14_1, hfz14_2, hfz14_3⟩ := Sq.f4 BK160.out) | ((with_reducible refine gate_callee (f := 37) rfl ?_); refine goesL_ (some 5) rfl rfl Try.func37 (by kernel_rfl) rfl #[.int .i64 a0_0, .int .i64 (-32768), .int .i64 32767] rfl (by (try simp only [List.map_toArray, List.map_cons, List.map_nil]); first | done | rfl | (simp only [List.length_drop, List.length_take]; rfl)) ?_; (with_reducible refine (gimbalref8_in.calls a0_0 (-32768) 32767 true _ A2.out).mono ?_); rintro e w' ⟨rfl, ⟨nd, rfl⟩⟩; refine ⟨_, rfl, ?_⟩) | (go_at_call 37; (with_reducible refine (gimbalref8_in.calls a0_1 (-32768) 32767 false _ A4.out).mono ?_); rintro e w' ⟨rfl, ⟨nd, rfl⟩⟩))
      go_ret
      exact ⟨by first | rfl | (simp [errW_none, errW_some] <;> rfl) | (simp [*, errW_none, errW_some] <;> rfl), Sq.w HB.out⟩
  · replace c3 := Bool.eq_false_iff.mpr c3
    subst c3
    have H1 : (some false) = some r := by rw [if_neg (show ¬ (false = true) by decide)] at H; exact H
    clear H
    have H := H1
    clear H1
    obtain rfl := Option.some.inj H
    go_enter Try.func19, Try.ntmps19
    go_wp2_with (first | ((with_reducible refine gate_dst (N := 1) rfl ?_); refine box_event ?hg (N := 1) ?hd (cs := #[.int .i64 a0_0, .int .i64 a0_1, .int .i64 a0_2, .int .i64 a0_3]) (t := 55) ?hr ?_; (case hd => rfl); (case hg => rfl); (case hr => first | (go_simp; done) | (go_simp; rfl)); intro gb160 hg w15 hbox hb; have n0_ := Aside0.mk (below_step (Sq.w HB.out) hb); have n1_ := Aside0.mk (hbox); have n2_ := Aside0.mk ((by rw [hg]; exact (below_size (Sq.w HB.out)) : w.heap.size ≤ gb160)); have n3_ := Aside0.mk ((by rw [hg]; exact (below_size (Sq.w HB.out)) : w.heap.size ≤ gb160)); clear HB; have HB := n0_; have BK160 := n1_; have GW160 := n2_; have GE160 := n3_; clear n0_ n1_ n2_ n3_; clear hb hbox hg; obtain ⟨hcz16_0, hcz16_1, hcz16_2, hcz16_3⟩ := Sq.c4 BK160.out; obtain ⟨hfz16_0, hfz16_1, hfz16_2, hfz16_3⟩ := Sq.f4 BK160.out) | ((with_reducible refine gate_callee (f := 37) rfl ?_); refine goesL_ (some 5) rfl rfl Try.func37 (by kernel_rfl) rfl #[.int .i64 a0_0, .int .i64 (-32768), .int .i64 32767] rfl (by (try simp only [List.map_toArray, List.map_cons, List.map_nil]); first | done | rfl | (simp only [List.length_drop, List.length_take]; rfl)) ?_; (with_reducible refine (gimbalref8_in.calls a0_0 (-32768) 32767 false _ A2.out).mono ?_); rintro e w' ⟨rfl, ⟨nd, rfl⟩⟩; refine ⟨_, rfl, ?_⟩))
    go_ret
    exact ⟨by first | rfl | (simp [errW_none, errW_some] <;> rfl) | (simp [*, errW_none, errW_some] <;> rfl), Sq.w HB.out⟩

/-! ### gimbalref8_Check: function 38 -/
def gimbalref8_Check.l0 : Nat → List Int → Int → Int → Option (Int)
  | 0, _, _, _ => none
  | k + 1, x0, x3, x4 => if x4 < 7 then (if 0 ≤ x4 then (if x4 < (x0.length : Int) then (gimbalref8_Check.l0 k x0 (Go.bits .xor .u8 x3 (rd x0 x4)) (wrap64 (x4 + 1))) else (none)) else (none)) else (some x3)
def gimbalref8_Check.f (k : Nat) (l0 : List Int) : Option (Int) := gimbalref8_Check.l0 k l0 90 0
theorem gimbalref8_Check.mono_l : ∀ k, (∀ y0 y1 y2, LeO (gimbalref8_Check.l0 k y0 y1 y2) (gimbalref8_Check.l0 (k + 1) y0 y1 y2))
  | 0 => fun _ _ _ r h => by simp [gimbalref8_Check.l0] at h
  | k + 1 => by
    have ih0 := gimbalref8_Check.mono_l k
    · intro y0 y1 y2
      unfold gimbalref8_Check.l0
      repeat' first
      | (with_reducible exact ih0 _ _ _)
      | (with_reducible exact LeO.refl _)
      | (with_reducible exact LeO.none _)
      | (with_reducible refine LeO.ite ?_ ?_)
      | (with_reducible refine LeO.bind ?_ (fun _ => ?_))
      | exact ih0 _ _ _
      | exact LeO.none _
      | refine LeO.ite ?_ ?_
      | refine LeO.bind ?_ (fun _ => ?_)
theorem gimbalref8_Check.mono : ∀ a0 k, LeO (gimbalref8_Check.f k a0) (gimbalref8_Check.f (k + 1) a0) := by
  intro a0 k
  have ih0 := gimbalref8_Check.mono_l k
  unfold gimbalref8_Check.f
  repeat' first
      | (with_reducible exact ih0 _ _ _)
      | (with_reducible exact LeO.refl _)
      | (with_reducible exact LeO.none _)
      | (with_reducible refine LeO.ite ?_ ?_)
      | (with_reducible refine LeO.bind ?_ (fun _ => ?_))
      | exact ih0 _ _ _
      | exact LeO.none _
      | refine LeO.ite ?_ ?_
      | refine LeO.bind ?_ (fun _ => ?_)
set_option maxHeartbeats 8000000 in
set_option maxRecDepth 100000 in
theorem gimbalref8_Check.calls (k : Nat) (A0 : Option Addr) (c0 : Nat) (l0 : List Int) (r : Int) (w : World) (hr0 : Kd.C (Kd.int .u8) w A0 l0.length l0) (hc0 : l0.length ≤ c0) (h : gimbalref8_Check.f k l0 = some r) :
    Calls Try.prog 38 #[.slice A0 l0.length c0] w fun e w' => e = .returned (.int .u8 r) ∧ Drawn0 w w' := by
  have HR0 := Aside0.mk hr0
  have HC0 := Aside0.mk hc0
  clear hr0 hc0
  have H : (gimbalref8_Check.l0 k l0 90 0) = some r := h
  clear h
  have H' := Aside0.mk H
  clear H
  go_enter Try.func38, Try.ntmps38
  go_wp2
  go_loopg [3, 4] k (fun kq v3 v4 w' => ∃ (x3_1 : Int) (x4_1 : Int), v3 = .int .u8 x3_1 ∧ v4 = .int .i64 x4_1 ∧ Aside0 (gimbalref8_Check.l0 kq l0 x3_1 x4_1 = some r) ∧ Aside0 (kq ≤ k) ∧ Drawn0 w w')
  case atStart => exact ⟨(90), (0), (by first | rfl | (simp; done) | (simp [*]; done)), (by first | rfl | (simp; done) | (simp [*]; done)), H', ⟨Nat.le_refl _⟩, by repeat (first | exact Drawn0.refl _ | apply Drawn0.step)⟩
  case round =>
    clear H'
    obtain ⟨x3_1, x4_1, rfl, rfl, HA, HK1, ⟨m1, rfl⟩⟩ := hrel
    cases gk with
    | zero => exact absurd HA.out (by simp [gimbalref8_Check.l0])
    | succ k1 =>
      have H := HA.out
      clear HA
      simp only [gimbalref8_Check.l0] at H
      by_cases c2 : x4_1 < 7
      · rw [if_pos c2] at H
        have c2b0 : decide (x4_1 < 7) = true := decide_eq_true c2
        clear c2
        by_cases c3 : 0 ≤ x4_1
        · rw [if_pos c3] at H
          have c3b0 : decide (0 ≤ x4_1) = true := decide_eq_true c3
          clear c3
          by_cases c4 : x4_1 < (l0.length : Int)
          · rw [if_pos c4] at H
            have c4b0 : decide (x4_1 < (l0.length : Int)) = true := decide_eq_true c4
            clear c4
            have H' := Aside0.mk H
            clear H
            have p165 : 0 ≤ (x4_1 : Int) := of_decide_eq_true (by first | (with_reducible assumption) | assumption)
            have q165 : x4_1 < (l0.length : Int) := of_decide_eq_true (by first | (with_reducible assumption) | assumption)
            obtain ⟨ad165, e165, hx165_0⟩ := Kd.at_int HR0.out x4_1 p165 q165
            cases e165
            replace p165 := eq_true p165
            replace q165 := eq_true q165
            go_wp2
            go_roundg k1
            case measure => have := HK1.out; omega
            case rel => exact ⟨(Go.bits .xor .u8 x3_1 (rd l0 x4_1)), (wrap64 (x4_1 + 1)), (by first | rfl | (simp; done) | (simp [*]; done)), (by first | rfl | (simp; done) | (simp [*]; done)), H', ⟨by have := HK1.out; omega⟩, by repeat (first | exact Drawn0.refl _ | apply Drawn0.step)⟩
          · rw [if_neg c4] at H
            exact absurd H (by simp)
        · rw [if_neg c3] at H
          exact absurd H (by simp)
      · rw [if_neg c2] at H
        have c2b0 : decide (x4_1 < 7) = false := decide_eq_false c2
        clear c2
        obtain rfl := Option.some.inj H
        go_wp2
        go_ret
        exact ⟨by first | rfl | (simp; done) | (simp [*]; done), by repeat (first | exact Drawn0.refl _ | apply Drawn0.step)⟩

/-! ### gimbalref8_Bytes: function 20 -/
def gimbalref8_Bytes.f (k : Nat) (a0_0 : Int) (a0_1 : Int) (a0_2 : Int) (a0_3 : Int) : Option (List Int) := (some (([(a0_0 / 256) % 256, (a0_0) % 256, (a0_1 / 256) % 256, (a0_1) % 256, (a0_2 / 256) % 256, (a0_2) % 256, (a0_3) % 256] : List Int) : List Int)).bind fun y167 => ((gimbalref8_Check.f k y167).bind fun t170 => (if y167.length < 140737488355328 then (some (y167 ++ [t170])) else (none)))
theorem gimbalref8_Bytes.mono : ∀ a0 a1 a2 a3 k, LeO (gimbalref8_Bytes.f k a0 a1 a2 a3) (gimbalref8_Bytes.f (k + 1) a0 a1 a2 a3) := by
  intro a0 a1 a2 a3 k
  unfold gimbalref8_Bytes.f
  repeat' first
      | (with_reducible exact gimbalref8_Check.mono _ _)
      | (with_reducible exact LeO.refl _)
      | (with_reducible exact LeO.none _)
      | (with_reducible refine LeO.ite ?_ ?_)
      | (with_reducible refine LeO.bind ?_ (fun _ => ?_))
      | exact gimbalref8_Check.mono _ _
      | exact LeO.none _
      | refine LeO.ite ?_ ?_
      | refine LeO.bind ?_ (fun _ => ?_)
set_option maxHeartbeats 8000000 in
set_option maxRecDepth 100000 in
theorem gimbalref8_Bytes.calls (k : Nat) (a0_0 : Int) (a0_1 : Int) (a0_2 : Int) (a0_3 : Int) (r : List Int) (w : World) (h : gimbalref8_Bytes.f k a0_0 a0_1 a0_2 a0_3 = some r) :
    Calls Try.prog 20 #[.agg #[.int .i64 a0_0, .int .i64 a0_1, .int .i64 a0_2, .int .i64 a0_3]] w fun e w' => ∃ v0_ : Value, e = .returned (v0_) ∧ Kd.R (Kd.int .u8) 5 w' w.heap.size (fun _ => True) v0_ r ∧ Below w.heap.size w w' := by
  have hu55 := Try.underlying55
  have HB := Aside0.mk (Below.refl w.heap.size w)
  have H : ((some (([(a0_0 / 256) % 256, (a0_0) % 256, (a0_1 / 256) % 256, (a0_1) % 256, (a0_2 / 256) % 256, (a0_2) % 256, (a0_3) % 256] : List Int) : List Int)).bind fun y167 => ((gimbalref8_Check.f k y167).bind fun t170 => (if y167.length < 140737488355328 then (some (y167 ++ [t170])) else (none)))) = some r := h
  clear h
  obtain ⟨y167, hy167⟩ : ∃ y_ : List Int, y_ = (([(a0_0 / 256) % 256, (a0_0) % 256, (a0_1 / 256) % 256, (a0_1) % 256, (a0_2 / 256) % 256, (a0_2) % 256, (a0_3) % 256] : List Int)) := ⟨_, rfl⟩
  replace H : ((gimbalref8_Check.f k y167).bind fun t170 => (if y167.length < 140737488355328 then (some (y167 ++ [t170])) else (none))) = some r := by first | (rw [hy167]; with_reducible exact H) | (have H2_ := (Option.bind_some _ _).symm.trans H; rw [hy167]; with_reducible exact H2_) | (have H2_ := (Option.bind_some _ _).symm.trans H; with_reducible exact H2_) | with_reducible exact H | (rw [hy167]; exact H) | exact H
  have Ny167 := Aside0.mk hy167
  clear hy167
  replace H := Option.bind_eq_some_iff.mp H
  obtain ⟨t170, A20, H⟩ := H
  replace H : (if y167.length < 140737488355328 then (some (y167 ++ [t170])) else (none)) = some r := H
  have A2 := Aside0.mk A20
  clear A20
  by_cases c3 : y167.length < 140737488355328
  · rw [if_pos c3] at H
    have LMc3 := Aside0.mk c3
    clear c3
    obtain ⟨y171, hy171⟩ : ∃ y_ : List Int, y_ = (y167 ++ [t170]) := ⟨_, rfl⟩
    replace H : (some y171) = some r := by first | (rw [hy171]; with_reducible exact H) | (have H2_ := (Option.bind_some _ _).symm.trans H; rw [hy171]; with_reducible exact H2_) | (have H2_ := (Option.bind_some _ _).symm.trans H; with_reducible exact H2_) | with_reducible exact H | (rw [hy171]; exact H) | exact H
    have Ny171 := Aside0.mk hy171
    clear hy171
    obtain rfl := Option.some.inj H
    go_enter Try.func20, Try.ntmps20
    go_wp2_with (first | ((with_reducible refine gate_dst (N := 1) rfl ?_); refine box_event ?hg (N := 1) ?hd (cs := #[.int .i64 a0_0, .int .i64 a0_1, .int .i64 a0_2, .int .i64 a0_3]) (t := 55) ?hr ?_; (case hd => rfl); (case hg => rfl); (case hr => first | (go_simp; done) | (go_simp; rfl)); intro gb166 hg w4 hbox hb; have n0_ := Aside0.mk (below_step (Sq.w HB.out) hb); have n1_ := Aside0.mk (hbox); have n2_ := Aside0.mk ((by rw [hg]; exact (below_size (Sq.w HB.out)) : w.heap.size ≤ gb166)); have n3_ := Aside0.mk ((by rw [hg]; exact (below_size (Sq.w HB.out)) : w.heap.size ≤ gb166)); clear HB; have HB := n0_; have BK166 := n1_; have GW166 := n2_; have GE166 := n3_; clear n0_ n1_ n2_ n3_; clear hb hbox hg; obtain ⟨hcz5_0, hcz5_1, hcz5_2, hcz5_3⟩ := Sq.c4 BK166.out; obtain ⟨hfz5_0, hfz5_1, hfz5_2, hfz5_3⟩ := Sq.f4 BK166.out) | ((with_reducible refine gate_dst (N := 28) rfl ?_); refine Kd.R_lit (Kd.int .u8) _ 5 ?hg (N := 28) ?hd (xs := ([(a0_0 / 256) % 256, (a0_0) % 256, (a0_1 / 256) % 256, (a0_1) % 256, (a0_2 / 256) % 256, (a0_2) % 256, (a0_3) % 256] : List Int)) (inner := [.int .u8 ((a0_0 / 256) % 256), .int .u8 ((a0_0) % 256), .int .u8 ((a0_1 / 256) % 256), .int .u8 ((a0_1) % 256), .int .u8 ((a0_2 / 256) % 256), .int .u8 ((a0_2) % 256), .int .u8 ((a0_3) % 256)]) (ok := fun _ => True) (okp := fun _ => True) ?hr ?hp (fun _ hk => hk) trivial (Below.refl _ _) (Nat.le_refl _) (by simp) ?_; (case hd => rfl); (case hg => rfl); (case hr => first | (go_simp; done) | (go_simp; rfl)); (case hp => exact (Reps.one (show Kd.M (Kd.int .u8) _ _ _ ((a0_0 / 256) % 256) [.int .u8 ((a0_0 / 256) % 256)] from rfl) (Reps.one (show Kd.M (Kd.int .u8) _ _ _ ((a0_0) % 256) [.int .u8 ((a0_0) % 256)] from rfl) (Reps.one (show Kd.M (Kd.int .u8) _ _ _ ((a0_1 / 256) % 256) [.int .u8 ((a0_1 / 256) % 256)] from rfl) (Reps.one (show Kd.M (Kd.int .u8) _ _ _ ((a0_1) % 256) [.int .u8 ((a0_1) % 256)] from rfl) (Reps.one (show Kd.M (Kd.int .u8) _ _ _ ((a0_2 / 256) % 256) [.int .u8 ((a0_2 / 256) % 256)] from rfl) (Reps.one (show Kd.M (Kd.int .u8) _ _ _ ((a0_2) % 256) [.int .u8 ((a0_2) % 256)] from rfl) (Reps.one (show Kd.M (Kd.int .u8) _ _ _ ((a0_3) % 256) [.int .u8 ((a0_3) % 256)] from rfl) (Reps.none _ _))))))))); intro v168 w6 ho7 hb hg_ hnew_; clear hg_ hnew_; (first | rw [← Ny167.out] at ho7 | (simp only [Int.reduceToNat] at ho7; rw [← Ny167.out] at ho7)); have n0_ := Aside0.mk (Kd.R_lower ho7 (below_size (Sq.w HB.out))); have n1_ := Aside0.mk (blk_below (Sq.b BK166.out) hb); have n2_ := Aside0.mk (below_step (Sq.w HB.out) hb); clear BK166; clear HB; have HO169 := n0_; have BK166 := n1_; have HB := n2_; clear n0_ n1_ n2_; clear hb ho7; obtain ⟨Ao8, co8, eo8⟩ := Kd.R_slice HO169.out; subst eo8) | ((with_reducible refine gate_callee (f := 38) rfl ?_); refine goesL_ (some 31) rfl rfl Try.func38 (by kernel_rfl) rfl #[.slice Ao8 y167.length co8] rfl (by (try simp only [List.map_toArray, List.map_cons, List.map_nil]); first | done | rfl | (simp only [List.length_drop, List.length_take]; rfl)) ?_; (with_reducible refine (gimbalref8_Check.calls k _ _ y167 t170 _ ?side1 ?side2 A2.out).mono ?_); (case side1 => repeat (first | exact (Kd.R_reads' HO169.out).2.2 | (with_reducible refine Kd.C_alloc ?_ _) | (with_reducible refine Kd.C_drewN ?_ _) | (with_reducible refine Kd.C_drew ?_))); (case side2 => exact (Kd.R_reads' HO169.out).2.1); rintro e w' ⟨rfl, ⟨nd, rfl⟩⟩; refine ⟨_, rfl, ?_⟩) | ((with_reducible refine gate_builtin (b := .append) (xs := #[.tmp 29, .tmp 32]) rfl ?_); at_builtin; refine Kd.R_append (Kd.int .u8) (w0 := w) w.heap.size rfl (.tmp 29) (.tmp 32) 25 5 (.int .u8 0) 1 rfl Try.underlying25 info5 rfl (by decide) (by omega) (.slice Ao8 y167.length co8) y167 t170 [_] (fun _ => True) (fun _ => False) rfl rfl ?aP (fun _ hk => hk.elim) ?aF ?aO ?aB ?aS ?aL ?_; (case aP => first | exact rfl | (show [_] = [_]; congr 2; omega) | simp); (case aB => exact (Sq.w HB.out)); (case aF => exact (fun _ _ => trivial)); (case aO => exact (Sq.rR HO169.out)); (case aS => exact (below_size (Sq.w HB.out))); (case aL => have := LMc3.out; omega); intro v172 w9 ho hb hg hat; rw [← Ny171.out] at ho; have n0_ := Aside0.mk (blk_grown (g := gb166) (o := .cells #[.int .i64 a0_0, .int .i64 a0_1, .int .i64 a0_2, .int .i64 a0_3] 55 (0, 0)) (Sq.b BK166.out) hg (Kd.R_ne HO169.out BK166.out (by decide))); have n1_ := Aside0.mk (hb); have n2_ := Aside0.mk (ho); clear BK166; clear HB; clear HO169; have BK166 := n0_; have HB := n1_; have HO173 := n2_; clear n0_ n1_ n2_; clear ho hb hg hat))
    go_ret
    exact ⟨_, by first | rfl | (simp [errW_none, errW_some] <;> rfl) | (simp [*, errW_none, errW_some] <;> rfl), by (with_reducible repeat (first | apply Kd.R_alloc | apply Kd.R_drewN | apply Kd.R_drew)); exact HO173.out, Sq.w HB.out⟩
  · rw [if_neg c3] at H
    exact absurd H (by simp)

end Go.Proofs.Ytnlmbejkemkkoaa.PDrvSamples
