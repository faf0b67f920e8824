/-
  Walks of package rate: Needing.
  No conditions.
-/
import Derived.Test.YtfdfnmlbmijdjaaRateS
namespace Go.Proofs.Ytfdfnmlbmijdjaa.Rt
open Go.RowKit Go.Lib Go.Proofs.YtfdfnmlbmijdjaaW.PrintWords Go.Proofs.YtfdfnmlbmijdjaaW.PrintLast Go.Proofs.YtfdfnmlbmijdjaaW.PrintMore
set_option linter.unusedVariables false
set_option linter.unusedSimpArgs false
def nd (s : Int) : List Int := if s = 6 ∨ s = 9 then [1, 2, 3] else if s = 7 ∨ s = 8 ∨ s = 14 then [1, 2] else if s = 10 then [4] else if s = 11 ∨ s = 12 ∨ s = 13 ∨ s = 15 then [1] else if 1 ≤ s ∧ s ≤ 5 then [s] else []
theorem nd_f (s : Int) : ∃ e, power_Needs.f 20 s = some (nd s, e) := by
  by_cases h : 1 ≤ s ∧ s ≤ 15
  · have h2 : s = 1 ∨ s = 2 ∨ s = 3 ∨ s = 4 ∨ s = 5 ∨ s = 6 ∨ s = 7 ∨ s = 8 ∨ s = 9 ∨ s = 10 ∨ s = 11 ∨ s = 12 ∨ s = 13 ∨ s = 14 ∨ s = 15 := by omega
    refine ⟨0, ?_⟩
    rcases h2 with rfl | rfl | rfl | rfl | rfl | rfl | rfl | rfl | rfl | rfl | rfl | rfl | rfl | rfl | rfl <;> kernel_rfl
  · refine ⟨1, ?_⟩
    have hs : cmd_Sensor.f s = some false := by
      unfold cmd_Sensor.f
      by_cases h1 : s ≥ 1
      · rw [if_pos h1, decide_eq_false (by omega)]
      · rw [if_neg h1]
    unfold power_Needs.f nd
    rw [hs, Option.bind_some, if_neg (by decide), if_neg (by omega), if_neg (by omega), if_neg (by omega), if_neg (by omega), if_neg (by omega)]
theorem contains_f (l : List Int) (x : Int) (hl : l.length < 1099511627776) : ∃ k, slices_Contains_int_int.f k l x = some (decide (x ∈ l)) := by
  have h : ∀ d j : Nat, j + d = l.length → ∃ q : Int, slices_Index_int_int.l0 (d + 1) l x (l.length : Int) (j : Int) = some q ∧ (q ≥ 0 ↔ x ∈ l.drop j) := by
    intro d
    induction d with
    | zero =>
      intro j hj
      refine ⟨-1, ?_, ?_⟩
      · simp only [slices_Index_int_int.l0]
        rw [if_neg (by omega)]
      · rw [List.drop_of_length_le (by omega)]
        simp
    | succ d ih =>
      intro j hj
      have hr : rd l (j : Int) = l[j]'(by omega) := by
        unfold rd
        rw [Int.toNat_natCast, List.getD_eq_getElem?_getD, List.getElem?_eq_getElem (show j < l.length by omega)]
        rfl
      rw [slices_Index_int_int.l0, if_pos (by omega), if_pos (by omega), if_pos (by omega), hr, List.drop_eq_getElem_cons (show j < l.length by omega)]
      by_cases hx : x = l[j]
      · rw [if_pos hx]
        exact ⟨j, rfl, by rw [hx]; simp only [List.mem_cons, true_or, iff_true]; omega⟩
      · obtain ⟨q, hq, hi⟩ := ih (j + 1) (by omega)
        rw [if_neg hx, show wrap64 ((j : Int) + 1) = ((j + 1 : Nat) : Int) by unfold wrap64; omega]
        refine ⟨q, hq, ?_⟩
        rw [hi, List.mem_cons]
        constructor
        · exact .inr
        · rintro (e | e)
          · exact absurd e hx
          · exact e
  obtain ⟨q, hq, hi⟩ := h l.length 0 (by omega)
  refine ⟨l.length + 1, ?_⟩
  unfold slices_Contains_int_int.f slices_Index_int_int.f
  rw [show (0 : Int) = ((0 : Nat) : Int) from rfl, hq, Option.bind_some]
  rw [List.drop_zero] at hi
  exact congrArg some (decide_eq_decide.2 hi)
def needStep (dev : Int) (acc : List Int) (x : Ent) : List Int := if decide (dev ∈ nd x.s) && !decide (x.c ∈ acc) then acc ++ [x.c] else acc
def needL (E : List Ent) (dev : Int) : List Int := E.foldl (needStep dev) []
theorem needL_succ (E : List Ent) (dev : Int) (i : Nat) (hi : i < E.length) : needL (E.take (i + 1)) dev = needStep dev (needL (E.take i) dev) E[i]! := by
  unfold needL
  rw [List.take_add_one, List.getElem?_eq_getElem hi, List.foldl_append, getElem!_pos E i hi]
  rfl
theorem needL_len (E : List Ent) (dev : Int) : (needL E dev).length ≤ E.length := by
  have h : ∀ (E : List Ent) (acc : List Int), (E.foldl (needStep dev) acc).length ≤ acc.length + E.length := by
    intro E
    induction E with
    | nil => intro acc; simp
    | cons x r ih =>
      intro acc
      rw [List.foldl_cons, List.length_cons]
      have h1 := ih (needStep dev acc x)
      have h2 : (needStep dev acc x).length ≤ acc.length + 1 := by
        unfold needStep
        split
        · rw [List.length_append]; simp
        · omega
      omega
  have := h E []
  unfold needL
  simpa using this
theorem new7 (w : World) (x1 x2 x3 x4 x5 x6 x7 : Int) (t : Nat) (i : Nat) : (w.alloc (.cells #[.int .i64 x1, .int .i64 x2, .int .i64 x3, .int .i64 x4, .int .i64 x5, .int .i64 x6, .int .i64 x7] t)).cell? ⟨w.heap.size, i, none⟩ = (#[Value.int .i64 x1, .int .i64 x2, .int .i64 x3, .int .i64 x4, .int .i64 x5, .int .i64 x6, .int .i64 x7] : Array Value)[i]? := blk_cell (blk_new w _) i
set_option maxHeartbeats 8000000 in
set_option maxRecDepth 100000 in
theorem needing_ (base g : Nat) (v : Value) (E : List Ent) (dev : Int) (W : World) (h : Tab base W g v E) (hsz : E.length < 1099511627776) (hd : 1 ≤ dev ∧ dev ≤ 5) : Calls Try.prog 24 #[.pointer (some ⟨g, 0, none⟩), .int .i64 dev] W fun e w' => ∃ v', e = .returned (.tuple #[v', .int .i64 0]) ∧ Kd.R (Kd.int .i64) 3 w' W.heap.size (fun _ => True) v' (needL E dev) ∧ Below W.heap.size W w' := by
  obtain ⟨A, c, rfl⟩ := h.slice
  have hg : g < W.heap.size := blk_lt h.1
  have hc0 : W.cell? ⟨g, 0, none⟩ = some (.slice A E.length c) := (blk_cell h.1 0).trans rfl
  have hcell : ∀ i, i < E.length → ∃ b, A = some ⟨b, 0, none⟩ ∧ b < W.heap.size ∧ E.length ≤ c ∧ ∀ k u, (enc E[i]!)[k]? = some u → W.cell? ⟨b, i * 7 + k, none⟩ = some u := fun i hi => by
    obtain ⟨b, rfl, hbc, _⟩ := h.block (by omega)
    exact ⟨b, rfl, own_lt h.2 b rfl, hbc, fun k u hu => h.cells i hi k u hu⟩
  have HC := Lib.hid hcell
  obtain ⟨n, hn⟩ : ∃ n, n = E.length := ⟨_, rfl⟩
  rw [← hn] at HC hc0 hsz
  have HN := Lib.hid hn
  have hd1 : ¬ dev < 1 := by omega
  have hd2 : ¬ 5 < dev := by omega
  clear h hcell hn hd
  go_enter Try.func24, Try.ntmps24
  go_wp2_with fail
  refine Cu.wp_loop (Cu.rep 6 Cu.f (Cu.rep 5 Cu.t (Cu.rep 12 Cu.f (Cu.rep 29 Cu.t (Cu.rep 1 Cu.f []))))) 34 (fun kq us_ w' => ∃ i : Nat, (Cu.nth us_ 5) = .int .i64 (i : Int) ∧ Aside0 (kq + i = n) ∧ Aside0 (Kd.R (Kd.int .i64) 3 w' W.heap.size (fun _ => True) (Cu.nth us_ 0) (needL (E.take i) dev)) ∧ Aside0 (Below W.heap.size W w')) n ?_ (by kernel_rfl) (by kernel_rfl) ?_
  · try dsimp only [Cu.pick, Cu.rep, Cu.nth]
    exact ⟨0, rfl, ⟨rfl⟩, ⟨Kd.R_nil _ _ _ _ _⟩, ⟨Below.refl _ _⟩⟩
  · intro gk wr u6 u7 u8 u9 u10 u23 u24 u25 u26 u27 u28 u29 u30 u31 u32 u33 u34 u35 u36 u37 u38 u39 u40 u41 u42 u43 u44 u45 u46 u47 u48 u49 u50 u51
    try dsimp only [Cu.over, Cu.rep, Cu.nth]
    intro hrel _ _ _ _
    obtain ⟨i, rfl, HK, HO, HB⟩ := hrel
    by_cases hi : i < n
    · obtain ⟨b, rfl, hbl, hbc, hcl⟩ := HC.out i (by have := HN.out; omega)
      have hcl' : ∀ k u, (enc E[i]!)[k]? = some u → wr.cell? ⟨b, i * 7 + k, none⟩ = some u := fun k u hu => (HB.out.cell hbl).trans (hcl k u hu)
      have htk := needL_succ E dev i (by have := HN.out; omega)
      have hlen := needL_len (E.take i) dev
      rw [List.length_take] at hlen
      generalize hy : E[i]! = y at hcl' htk
      obtain ⟨y1, y2, y3, y4, y5, y6, y7⟩ := y
      have c0 : wr.cell? ⟨b, i * 7, none⟩ = some (.int .i64 y1) := hcl' 0 _ rfl
      have c1 := hcl' 1 _ rfl
      have c2 := hcl' 2 _ rfl
      have c3 := hcl' 3 _ rfl
      have c4 := hcl' 4 _ rfl
      have c5 := hcl' 5 _ rfl
      have c6 := hcl' 6 _ rfl
      have hii : (i : Int) < (n : Int) := by omega
      obtain ⟨acc, hacc⟩ : ∃ acc, acc = needL (E.take i) dev := ⟨_, rfl⟩
      rw [← hacc] at HO htk hlen
      obtain ⟨e9, hnd⟩ := nd_f y2
      obtain ⟨l9, hl9⟩ : ∃ l9, l9 = nd y2 := ⟨_, rfl⟩
      have hl9l : l9.length < 1099511627776 := by
        rw [hl9]
        unfold nd
        (repeat' split) <;> simp
      obtain ⟨k1, hk1⟩ := contains_f l9 dev hl9l
      obtain ⟨k2, hk2⟩ := contains_f acc y1 (by omega)
      unfold needStep at htk
      dsimp only at htk
      rw [← hl9] at hnd htk
      have HT := Lib.hid htk
      have HX := Lib.hid (show (acc.length + 1) * 8 ≤ 140737488355328 from by omega)
      have HND := Lib.hid hnd
      have HK1 := Lib.hid hk1
      have HK2 := Lib.hid hk2
      clear hcl hcl' hy htk hi hacc hlen hl9 hl9l hnd hk1 hk2
      obtain ⟨A6, c6, rfl⟩ := Kd.R_slice HO.out
      by_cases hA : dev ∈ l9
      · rw [decide_eq_true hA] at HK1 HT
        by_cases hB : y1 ∈ acc
        · rw [decide_eq_true hB] at HK2 HT
          go_wp2_with (first | (go_at_call 38; refine (power_Needs.calls 20 y2 l9 e9 _ HND.out).mono ?_; rintro e w5 ⟨v5, rfl, ho5, hb5⟩; obtain ⟨A5, c5, rfl⟩ := Kd.R_slice ho5; have HB5 := Aside0.mk hb5; have HO5 := Aside0.mk ho5; have HO2 := Aside0.mk (Kd.R_below HO.out (below_step (below_alloc (Below.refl _ _) _) hb5)); have HB2 := Aside0.mk (below_step (below_alloc HB.out _) hb5); have ck0 := pw_cell_below hb5 (new7 wr y1 y2 y3 y4 y5 y6 y7 _ 0); clear hb5 ho5) | (go_at_call 39; refine (slices_Contains_int_int.calls k1 A5 c5 l9 dev _ _ (Kd.R_reads' HO5.out).2.2 (Kd.R_reads' HO5.out).2.1 HK1.out).mono ?_; rintro e w6 ⟨rfl, nd5, rfl⟩) | (go_at_call 39; refine (slices_Contains_int_int.calls k2 A6 c6 acc y1 _ _ (Kd.R_reads' (Kd.R_drewN HO2.out _)).2.2 (Kd.R_reads' HO2.out).2.1 HK2.out).mono ?_; rintro e w7 ⟨rfl, nd6, rfl⟩))
          refine Cu.handed (n - (i + 1)) (by have := HK.out; omega) (by assumption) ?_ (by kernel_rfl) (by kernel_rfl)
          try dsimp only [Cu.pick, Cu.rep, Cu.nth]
          exact ⟨i + 1, by rw [Int.natCast_add]; rfl, ⟨by have := HK.out; omega⟩, ⟨by rw [HT.out]; exact Kd.R_drewN HO2.out _⟩, ⟨pw_below_drewN HB2.out _⟩⟩
        · rw [decide_eq_false hB] at HK2 HT
          go_wp2_with (first | (go_at_call 38; refine (power_Needs.calls 20 y2 l9 e9 _ HND.out).mono ?_; rintro e w5 ⟨v5, rfl, ho5, hb5⟩; obtain ⟨A5, c5, rfl⟩ := Kd.R_slice ho5; have HB5 := Aside0.mk hb5; have HO5 := Aside0.mk ho5; have HO2 := Aside0.mk (Kd.R_below HO.out (below_step (below_alloc (Below.refl _ _) _) hb5)); have HB2 := Aside0.mk (below_step (below_alloc HB.out _) hb5); have ck0 := pw_cell_below hb5 (new7 wr y1 y2 y3 y4 y5 y6 y7 _ 0); clear hb5 ho5) | (go_at_call 39; refine (slices_Contains_int_int.calls k1 A5 c5 l9 dev _ _ (Kd.R_reads' HO5.out).2.2 (Kd.R_reads' HO5.out).2.1 HK1.out).mono ?_; rintro e w6 ⟨rfl, nd5, rfl⟩) | (go_at_call 39; refine (slices_Contains_int_int.calls k2 A6 c6 acc y1 _ _ (Kd.R_reads' (Kd.R_drewN HO2.out _)).2.2 (Kd.R_reads' HO2.out).2.1 HK2.out).mono ?_; rintro e w7 ⟨rfl, nd6, rfl⟩) | (at_builtin; refine Kd.R_append (Kd.int .i64) (w0 := W) W.heap.size rfl (.tmp 45) (.tmp 49) 36 3 (.int .i64 0) 8 rfl Try.underlying36 info3 rfl (by decide) (by omega) (.slice A6 acc.length c6) acc y1 [.int .i64 y1] (fun _ => True) (fun _ => False) rfl (by simp [Act.eval]) ?aP (fun _ hk => hk.elim) ?aF ?aO ?aB ?aS ?aL ?_; (case aP => rfl); (case aF => exact (fun _ _ => trivial)); (case aO => exact Kd.R_drewN HO2.out _); (case aB => exact pw_below_drewN HB2.out _); (case aS => exact below_size (pw_below_drewN HB2.out _)); (case aL => have := HX.out; omega); intro v1 w10 ho hb hgr hat; have HO3 := Aside0.mk ho; have HB3 := Aside0.mk hb; clear ho hb hgr hat))
          refine Cu.handed (n - (i + 1)) (by have := HK.out; omega) (by assumption) ?_ (by kernel_rfl) (by kernel_rfl)
          try dsimp only [Cu.pick, Cu.rep, Cu.nth]
          exact ⟨i + 1, by rw [Int.natCast_add]; rfl, ⟨by have := HK.out; omega⟩, ⟨by rw [HT.out]; exact HO3.out⟩, ⟨HB3.out⟩⟩
      · rw [decide_eq_false hA] at HK1 HT
        go_wp2_with (first | (go_at_call 38; refine (power_Needs.calls 20 y2 l9 e9 _ HND.out).mono ?_; rintro e w5 ⟨v5, rfl, ho5, hb5⟩; obtain ⟨A5, c5, rfl⟩ := Kd.R_slice ho5; have HB5 := Aside0.mk hb5; have HO5 := Aside0.mk ho5; have HO2 := Aside0.mk (Kd.R_below HO.out (below_step (below_alloc (Below.refl _ _) _) hb5)); have HB2 := Aside0.mk (below_step (below_alloc HB.out _) hb5); have ck0 := pw_cell_below hb5 (new7 wr y1 y2 y3 y4 y5 y6 y7 _ 0); clear hb5 ho5) | (go_at_call 39; refine (slices_Contains_int_int.calls k1 A5 c5 l9 dev _ _ (Kd.R_reads' HO5.out).2.2 (Kd.R_reads' HO5.out).2.1 HK1.out).mono ?_; rintro e w6 ⟨rfl, nd5, rfl⟩))
        refine Cu.handed (n - (i + 1)) (by have := HK.out; omega) (by assumption) ?_ (by kernel_rfl) (by kernel_rfl)
        try dsimp only [Cu.pick, Cu.rep, Cu.nth]
        exact ⟨i + 1, by rw [Int.natCast_add]; rfl, ⟨by have := HK.out; omega⟩, ⟨by rw [HT.out]; exact Kd.R_drewN HO2.out _⟩, ⟨pw_below_drewN HB2.out _⟩⟩
    · go_wp2
      go_ret2
      refine ⟨_, rfl, ?_, HB.out⟩
      have he : E.take i = E := List.take_of_length_le (by have := HN.out; omega)
      have := HO.out
      rw [he] at this
      exact this
set_option maxHeartbeats 4000000 in
theorem needing_no (g : Nat) (dev : Int) (W : World) (hd : ¬ (1 ≤ dev ∧ dev ≤ 5)) : Calls Try.prog 24 #[.pointer (some ⟨g, 0, none⟩), .int .i64 dev] W fun e w' => e = .returned (.tuple #[.slice none 0 0, .int .i64 1]) ∧ w' = W := by
  go_enter Try.func24, Try.ntmps24
  by_cases h1 : dev < 1
  · clear hd
    go_wp2
    go_ret2
    exact ⟨rfl, rfl⟩
  · have h2 : 5 < dev := by omega
    clear hd
    go_wp2
    go_ret2
    exact ⟨rfl, rfl⟩
end Go.Proofs.Ytfdfnmlbmijdjaa.Rt
