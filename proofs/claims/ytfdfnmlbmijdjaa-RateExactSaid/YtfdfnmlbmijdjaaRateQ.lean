/-
  Walks of package rate: Take.
  No conditions.
-/
import Derived.Test.YtfdfnmlbmijdjaaRateO
import Derived.Test.YtfdfnmlbmijdjaaRateM
namespace Go.Proofs.Ytfdfnmlbmijdjaa.Rt
open Go.RowKit Go.Lib Go.Proofs.YtfdfnmlbmijdjaaW.PrintWords Go.Proofs.YtfdfnmlbmijdjaaW.PrintLast Go.Proofs.YtfdfnmlbmijdjaaW.PrintMore
set_option linter.unusedVariables false
set_option linter.unusedSimpArgs false
def timeOk (t : Int) : Bool := decide (0 ≤ t) && decide (t ≤ 1099511627776)
set_option maxHeartbeats 4000000 in
theorem time_ (t : Int) (W : World) : Calls Try.prog 33 #[.int .i64 t] W fun e w' => e = .returned (.bool (timeOk t)) ∧ w' = W := by
  obtain ⟨r, hr⟩ : ∃ r, r = timeOk t := ⟨_, rfl⟩
  rw [← hr]
  unfold timeOk at hr
  have HR := Lib.hid hr
  clear hr
  go_enter Try.func33, Try.ntmps33
  go_wp2
  all_goals (go_ret; refine ⟨?_, rfl⟩; rw [HR.out]; first | rfl | (congr 1; simp; omega) | (simp; omega))
def upd (s now : Int) (x : Ent) : Ent := if x.s = s ∧ x.d ≤ now then ⟨x.c, x.s, x.a, x.b, x.p, x.q, wrap64 (now + x.p)⟩ else x
def hit (s now : Int) (x : Ent) : Bool := decide (x.s = s) && decide (x.d ≤ now)
def takeE (E : List Ent) (s now : Int) : List Ent := E.map (upd s now)
def takeL (E : List Ent) (s now : Int) : List Int := (E.filter (hit s now)).map (·.c)
def half (E : List Ent) (s now : Int) (i : Nat) : List Ent := (E.take i).map (upd s now) ++ E.drop i
theorem half_len (E : List Ent) (s now : Int) (i : Nat) : (half E s now i).length = E.length := by
  unfold half
  rw [List.length_append, List.length_map, List.length_take, List.length_drop]
  omega
theorem half_get (E : List Ent) (s now : Int) (i : Nat) (hi : i < E.length) : (half E s now i)[i]! = E[i]! := by
  unfold half
  have hl : ((E.take i).map (upd s now)).length = i := by rw [List.length_map, List.length_take]; omega
  rw [getElem!_def, getElem!_def, List.getElem?_append_right (by omega), hl, Nat.sub_self, List.getElem?_drop, Nat.add_zero]
theorem half_succ (E : List Ent) (s now : Int) (i : Nat) (hi : i < E.length) : half E s now (i + 1) = (half E s now i).set i (upd s now E[i]!) := by
  unfold half
  have hl : ((E.take i).map (upd s now)).length = i := by rw [List.length_map, List.length_take]; omega
  rw [List.set_append_right _ _ (by omega), hl, Nat.sub_self, List.take_add_one, List.getElem?_eq_getElem hi, List.map_append, getElem!_pos E i hi]
  rw [show List.drop i E = E[i] :: List.drop (i + 1) E from List.drop_eq_getElem_cons hi, List.set_cons_zero, List.append_assoc]
  rfl
theorem half_same (E : List Ent) (s now : Int) (i : Nat) (hi : i < E.length) (h : hit s now E[i]! = false) : half E s now (i + 1) = half E s now i := by
  rw [half_succ E s now i hi]
  have hu : upd s now E[i]! = (half E s now i)[i]! := by
    rw [half_get E s now i hi]
    unfold hit at h
    unfold upd
    rw [if_neg]
    intro h2
    rw [decide_eq_true h2.1, decide_eq_true h2.2] at h
    cases h
  rw [hu, getElem!_pos _ i (by rw [half_len]; exact hi), List.set_getElem_self]
theorem takeL_succ (E : List Ent) (s now : Int) (i : Nat) (hi : i < E.length) : takeL (E.take (i + 1)) s now = takeL (E.take i) s now ++ (if hit s now E[i]! then [E[i]!.c] else []) := by
  unfold takeL
  rw [List.take_add_one, List.getElem?_eq_getElem hi, List.filter_append, List.map_append, getElem!_pos E i hi]
  congr 1
  cases h : hit s now E[i] <;> simp [h]
theorem takeL_len (E : List Ent) (s now : Int) : (takeL E s now).length ≤ E.length := by
  unfold takeL
  rw [List.length_map]
  exact List.length_filter_le _ _
/-- The due cell written. -/
theorem Tab.due {base : Nat} {w : World} {g b n c : Nat} {E : List Ent} (h : Tab base w g (.slice (some ⟨b, 0, none⟩) n c) E) (i : Nat) (hi : i < E.length) (d : Int) : Tab base (w.setCell ⟨b, i * 7 + 6, none⟩ (.int .i64 d)) g (.slice (some ⟨b, 0, none⟩) n c) (E.set i ⟨E[i]!.c, E[i]!.s, E[i]!.a, E[i]!.b, E[i]!.p, E[i]!.q, d⟩) ∧ MovT base w (w.setCell ⟨b, i * 7 + 6, none⟩ (.int .i64 d)) g := by
  have hne := h.ne
  have hgb : g ≠ b := fun e => hne (by rw [e]; rfl)
  have hn : n = E.length := by
    obtain ⟨_, _, hh⟩ := h.slice
    injection hh
  subst hn
  have hs := (World.ownsRow.stored h.2 (i * 7 + 6) (.int .i64 d)).1
  have hf : (flat E).set (i * 7 + 6) (.int .i64 d) = flat (E.set i ⟨E[i]!.c, E[i]!.s, E[i]!.a, E[i]!.b, E[i]!.p, E[i]!.q, d⟩) := by
    have hl : (flat (E.take i)).length = i * 7 := by rw [flat_len, List.length_take]; omega
    have hset : ∀ z, flat (E.set i z) = flat (E.take i) ++ enc z ++ flat (E.drop (i + 1)) := by
      intro z
      rw [List.set_eq_take_append_cons_drop, if_pos hi, flat_app]
      simp [flat]
    rw [hset, flat_split E i hi]
    generalize E[i]! = x
    rw [List.append_assoc, List.append_assoc, List.set_append_right _ _ (by omega), hl, show i * 7 + 6 - i * 7 = 6 by omega]
    rfl
  rw [hf] at hs
  refine ⟨⟨?_, ?_⟩, ?_⟩
  · exact (Below.heap_setCell _ _ _ _ hgb).trans h.1
  · rw [List.length_set]; exact hs
  · exact Moved.toT ⟨rfl, rfl, rfl, by simp [World.setCell], fun k hk hkg hkb => Below.heap_setCell _ _ _ _ (fun e => hkb (by rw [e]; rfl))⟩ h
theorem Tab.unfrozen {base : Nat} {w : World} {g b n c : Nat} {E : List Ent} (h : Tab base w g (.slice (some ⟨b, 0, none⟩) n c) E) (j : Nat) : w.frozen? ⟨b, j, none⟩ = false := by
  obtain ⟨_, _, hh⟩ := h.slice
  injection hh with _ hn _
  subst hn
  exact World.ownsRow.frozenAt h.2 j
theorem Tab.blk77 {base : Nat} {w : World} {g b n c : Nat} {E : List Ent} (h : Tab base w g (.slice (some ⟨b, 0, none⟩) n c) E) : ∃ cs, w.heap[b]? = some (.cells cs 77 (0, 0)) := own_typed h.2 b rfl
theorem Tab.below2 {base : Nat} {w w' : World} {g b n c B : Nat} {E : List Ent} (h : Tab base w g (.slice (some ⟨b, 0, none⟩) n c) E) (hb : Below B w w') (hg : g < B) (hbb : b < B) : Tab base w' g (.slice (some ⟨b, 0, none⟩) n c) E :=
  ⟨(hb.block g hg).trans h.1, own_move h.2 (fun k hk => by
    have e : b = k := by injection hk
    subst e
    exact hb.block b hbb)⟩
theorem MovT.refl (base : Nat) (w : World) (g : Nat) : MovT base w w g := ⟨rfl, rfl, rfl, Nat.le_refl _, fun _ _ _ _ => rfl⟩
theorem MovT.below {base : Nat} {W w w' : World} {g : Nat} (h : MovT base W w g) (hb : Below W.heap.size w w') : MovT base W w' g :=
  ⟨hb.os.trans h.os, hb.tape.trans h.tape, hb.output.trans h.output, Nat.le_trans h.size hb.size, fun k hk hkg hkt => (hb.block k hk).trans (h.block k hk hkg hkt)⟩
set_option maxHeartbeats 16000000 in
set_option maxRecDepth 100000 in
theorem take_ok (base g : Nat) (v : Value) (E : List Ent) (s now : Int) (W : World) (h : Tab base W g v E) (hsz : E.length < 1099511627776) (hs : senOk s = true ∨ s = 16) (ht : timeOk now = true) : Calls Try.prog 11 #[.pointer (some ⟨g, 0, none⟩), .int .i64 s, .int .i64 now] W fun e w' => ∃ v' v1, e = .returned (.tuple #[v', .int .i64 0]) ∧ Kd.R (Kd.int .i64) 3 w' W.heap.size (fun _ => True) v' (takeL E s now) ∧ Tab base w' g v1 (takeE E s now) ∧ MovT base W w' g := by
  obtain ⟨A, c, rfl⟩ := h.slice
  have hg : g < W.heap.size := blk_lt h.1
  have hc0 : W.cell? ⟨g, 0, none⟩ = some (.slice A E.length c) := (blk_cell h.1 0).trans rfl
  have hA : ∀ i, i < E.length → ∃ b, A = some ⟨b, 0, none⟩ ∧ b < W.heap.size ∧ E.length ≤ c := fun i hi => by
    obtain ⟨b, rfl, hbc, _⟩ := h.block (by omega)
    exact ⟨b, rfl, own_lt h.2 b rfl, hbc⟩
  have HA := Lib.hid hA
  have H0 := Lib.hid h
  obtain ⟨n, hn⟩ : ∃ n, n = E.length := ⟨_, rfl⟩
  rw [← hn] at HA hc0 hsz H0
  have HN := Lib.hid hn
  have hsen := fun w => sensor_ s w
  have htim := fun w => time_ now w
  rw [ht] at htim
  have HS := Lib.hid hsen
  have HT := Lib.hid htim
  have hfin : ∀ (w' : World) (v' : Value), Kd.R (Kd.int .i64) 3 w' W.heap.size (fun _ => True) v' (takeL (E.take n) s now) ∧ Tab base w' g (.slice A n c) (half E s now n) ∧ MovT base W w' g → Kd.R (Kd.int .i64) 3 w' W.heap.size (fun _ => True) v' (takeL E s now) ∧ Tab base w' g (.slice A n c) (takeE E s now) ∧ MovT base W w' g := fun w' v' hh => by
    have e1 : E.take n = E := List.take_of_length_le (by omega)
    have e2 : half E s now n = takeE E s now := by
      unfold half takeE
      rw [e1, List.drop_of_length_le (by omega), List.append_nil]
    rw [e1, e2] at hh
    exact hh
  have HF := Lib.hid hfin
  clear h hA hn hsen htim ht hfin
  generalize senOk s = b1 at HS hs
  go_enter Try.func11, Try.ntmps11
  have hb1 : b1 = true ∨ (b1 = false ∧ s = 16) := by
    cases b1
    · rcases hs with hs | hs
      · cases hs
      · exact .inr ⟨rfl, hs⟩
    · exact .inl rfl
  clear hs
  obtain ⟨L0, hL0⟩ : ∃ L0, L0 = takeL (E.take 0) s now := ⟨_, rfl⟩
  rcases hb1 with rfl | ⟨rfl, rfl⟩
  · go_wp2_with (first | (go_at_call 32; refine (HS.out _).mono ?_; rintro e w2 ⟨rfl, rfl⟩) | (go_at_call 33; refine (HT.out _).mono ?_; rintro e w2 ⟨rfl, rfl⟩))
    refine Cu.wp_loop (Cu.rep 8 Cu.f (Cu.rep 3 Cu.t (Cu.rep 18 Cu.f (Cu.rep 47 Cu.t (Cu.rep 1 Cu.f []))))) 50 (fun kq us_ w' => ∃ i : Nat, (Cu.nth us_ 3) = .int .i64 (i : Int) ∧ Aside0 (kq + i = n) ∧ Aside0 (Kd.R (Kd.int .i64) 3 w' w2.heap.size (fun _ => True) (Cu.nth us_ 0) (takeL (E.take i) s now)) ∧ Aside0 (Tab base w' g (.slice A n c) (half E s now i)) ∧ Aside0 (MovT base w2 w' g)) n ?_ (by kernel_rfl) (by kernel_rfl) ?_
    · try dsimp only [Cu.pick, Cu.rep, Cu.nth]
      refine ⟨0, rfl, ⟨rfl⟩, ⟨Kd.R_nil _ _ _ _ _⟩, ⟨?_⟩, ⟨MovT.refl _ _ _⟩⟩
      exact H0.out
    intro gk wr u8 u9 u10 u29 u30 u31 u32 u33 u34 u35 u36 u37 u38 u39 u40 u41 u42 u43 u44 u45 u46 u47 u48 u49 u50 u51 u52 u53 u54 u55 u56 u57 u58 u59 u60 u61 u62 u63 u64 u65 u66 u67 u68 u69 u70 u71 u72 u73 u74 u75
    try dsimp only [Cu.over, Cu.rep, Cu.nth]
    intro hrel _ _ _ _
    obtain ⟨i, rfl, HK, HO, HTb, HM⟩ := hrel
    by_cases hi : i < n
    · obtain ⟨b, rfl, hbl, hbc⟩ := HA.out i hi
      have hii : (i : Int) < (n : Int) := by omega
      have hiE : i < E.length := by have := HN.out; omega
      have hcl : ∀ k u, (enc E[i]!)[k]? = some u → wr.cell? ⟨b, i * 7 + k, none⟩ = some u := fun k u hu => by
        have := HTb.out.cells i (by rw [half_len]; exact hiE) k u
        rw [half_get E s now i hiE] at this
        exact this hu
      have hsame := half_same E s now i hiE
      have hsucc := half_succ E s now i hiE
      have htl := takeL_succ E s now i hiE
      have hget := half_get E s now i hiE
      have cg : wr.cell? ⟨g, 0, none⟩ = some (.slice (some ⟨b, 0, none⟩) n c) := (blk_cell HTb.out.1 0).trans rfl
      generalize hy : E[i]! = y at hcl hsame hsucc htl hget
      obtain ⟨y1, y2, y3, y4, y5, y6, y7⟩ := y
      have c0 : wr.cell? ⟨b, i * 7, none⟩ = some (.int .i64 y1) := hcl 0 _ rfl
      have c1 := hcl 1 _ rfl
      have c4 := hcl 4 _ rfl
      have c6 := hcl 6 _ rfl
      have HSA := Lib.hid hsame
      have HSU := Lib.hid hsucc
      have HTL := Lib.hid htl
      have HGE := Lib.hid hget
      have HX := Lib.hid (show (i + 1) * 8 ≤ 140737488355328 from by omega)
      clear hcl hy hsame hsucc htl hget hiE hi
      by_cases hs1 : y2 = s
      · by_cases hd : y7 ≤ now
        · have hhit : hit s now ⟨y1, y2, y3, y4, y5, y6, y7⟩ = true := by unfold hit; simp [hs1, hd]
          have hupd : upd s now ⟨y1, y2, y3, y4, y5, y6, y7⟩ = ⟨y1, y2, y3, y4, y5, y6, wrap64 (now + y5)⟩ := by unfold upd; rw [if_pos ⟨hs1, hd⟩]
          rw [hhit, if_pos rfl] at HTL
          rw [hupd] at HSU
          clear hhit hupd
          go_wp2_with (at_builtin; refine Kd.R_append (Kd.int .i64) (w0 := wr) w2.heap.size rfl (.tmp 55) (.tmp 61) 36 3 (.int .i64 0) 8 rfl Try.underlying36 info3 rfl (by decide) (by omega) u8 (takeL (E.take i) s now) y1 [.int .i64 y1] (fun _ => True) (fun _ => False) rfl (by simp [Act.eval]) ?aP (fun _ hk => hk.elim) ?aF ?aO ?aB ?aS ?aL ?_; (case aP => rfl); (case aF => exact (fun _ _ => trivial)); (case aO => exact HO.out); (case aB => exact Below.refl _ _); (case aS => exact HM.out.size); (case aL => have h1 := takeL_len (E.take i) s now; rw [List.length_take] at h1; have := HX.out; omega); intro v1 w10 ho hb hgr hat; have hT10 := HTb.out.below2 hb hg hbl; have d4 := (hb.cell (p := ⟨b, i * 7 + 4, none⟩) hbl).trans c4; have d6 := (hb.cell (p := ⟨b, i * 7 + 6, none⟩) hbl).trans c6; have hfz := hT10.unfrozen (i * 7 + 6); have HT10 := Aside0.mk hT10; have HO2 := Aside0.mk ho; have HM2 := Aside0.mk (HM.out.below hb); clear ho hb hgr hat hT10)
          refine Cu.handed (n - (i + 1)) (by have := HK.out; omega) (by assumption) ?_ (by kernel_rfl) (by kernel_rfl)
          try dsimp only [Cu.pick, Cu.rep, Cu.nth]
          have hdue := HT10.out.due i (by rw [half_len]; have := HN.out; omega) (wrap64 (now + y5))
          rw [HGE.out] at hdue
          refine ⟨i + 1, by rw [Int.natCast_add]; rfl, ⟨by have := HK.out; omega⟩, ⟨?_⟩, ⟨?_⟩, ⟨HM2.out.trans hdue.2⟩⟩
          · rw [HTL.out]
            obtain ⟨cs9, hcs9⟩ := Tab.blk77 HT10.out
            exact Kd.R_set HO2.out hcs9 (by decide) _ _
          · rw [HSU.out]
            exact hdue.1
        · go_wp2_with fail
          refine Cu.handed (n - (i + 1)) (by have := HK.out; omega) (by assumption) ?_ (by kernel_rfl) (by kernel_rfl)
          try dsimp only [Cu.pick, Cu.rep, Cu.nth]
          exact ⟨i + 1, by rw [Int.natCast_add]; rfl, ⟨by have := HK.out; omega⟩, ⟨by rw [HTL.out, show hit s now ⟨y1, y2, y3, y4, y5, y6, y7⟩ = false from by unfold hit; simp; omega, if_neg (by decide), List.append_nil]; exact HO.out⟩, ⟨by rw [HSA.out (by unfold hit; simp; omega)]; exact HTb.out⟩, ⟨HM.out⟩⟩
      · go_wp2_with fail
        refine Cu.handed (n - (i + 1)) (by have := HK.out; omega) (by assumption) ?_ (by kernel_rfl) (by kernel_rfl)
        try dsimp only [Cu.pick, Cu.rep, Cu.nth]
        exact ⟨i + 1, by rw [Int.natCast_add]; rfl, ⟨by have := HK.out; omega⟩, ⟨by rw [HTL.out, show hit s now ⟨y1, y2, y3, y4, y5, y6, y7⟩ = false from by unfold hit; simp; omega, if_neg (by decide), List.append_nil]; exact HO.out⟩, ⟨by rw [HSA.out (by unfold hit; simp; omega)]; exact HTb.out⟩, ⟨HM.out⟩⟩
    · go_wp2
      go_ret2
      obtain rfl : i = n := by have := HK.out; omega
      exact ⟨_, _, rfl, (HF.out _ _ ⟨HO.out, HTb.out, HM.out⟩).1, (HF.out _ _ ⟨HO.out, HTb.out, HM.out⟩).2.1, HM.out⟩
  · go_wp2_with (first | (go_at_call 32; refine (HS.out _).mono ?_; rintro e w2 ⟨rfl, rfl⟩) | (go_at_call 33; refine (HT.out _).mono ?_; rintro e w2 ⟨rfl, rfl⟩))
    refine Cu.wp_loop (Cu.rep 8 Cu.f (Cu.rep 3 Cu.t (Cu.rep 18 Cu.f (Cu.rep 47 Cu.t (Cu.rep 1 Cu.f []))))) 50 (fun kq us_ w' => ∃ i : Nat, (Cu.nth us_ 3) = .int .i64 (i : Int) ∧ Aside0 (kq + i = n) ∧ Aside0 (Kd.R (Kd.int .i64) 3 w' w2.heap.size (fun _ => True) (Cu.nth us_ 0) (takeL (E.take i) 16 now)) ∧ Aside0 (Tab base w' g (.slice A n c) (half E 16 now i)) ∧ Aside0 (MovT base w2 w' g)) n ?_ (by kernel_rfl) (by kernel_rfl) ?_
    · try dsimp only [Cu.pick, Cu.rep, Cu.nth]
      refine ⟨0, rfl, ⟨rfl⟩, ⟨Kd.R_nil _ _ _ _ _⟩, ⟨?_⟩, ⟨MovT.refl _ _ _⟩⟩
      exact H0.out
    intro gk wr u8 u9 u10 u29 u30 u31 u32 u33 u34 u35 u36 u37 u38 u39 u40 u41 u42 u43 u44 u45 u46 u47 u48 u49 u50 u51 u52 u53 u54 u55 u56 u57 u58 u59 u60 u61 u62 u63 u64 u65 u66 u67 u68 u69 u70 u71 u72 u73 u74 u75
    try dsimp only [Cu.over, Cu.rep, Cu.nth]
    intro hrel _ _ _ _
    obtain ⟨i, rfl, HK, HO, HTb, HM⟩ := hrel
    by_cases hi : i < n
    · obtain ⟨b, rfl, hbl, hbc⟩ := HA.out i hi
      have hii : (i : Int) < (n : Int) := by omega
      have hiE : i < E.length := by have := HN.out; omega
      have hcl : ∀ k u, (enc E[i]!)[k]? = some u → wr.cell? ⟨b, i * 7 + k, none⟩ = some u := fun k u hu => by
        have := HTb.out.cells i (by rw [half_len]; exact hiE) k u
        rw [half_get E 16 now i hiE] at this
        exact this hu
      have hsame := half_same E 16 now i hiE
      have hsucc := half_succ E 16 now i hiE
      have htl := takeL_succ E 16 now i hiE
      have hget := half_get E 16 now i hiE
      have cg : wr.cell? ⟨g, 0, none⟩ = some (.slice (some ⟨b, 0, none⟩) n c) := (blk_cell HTb.out.1 0).trans rfl
      generalize hy : E[i]! = y at hcl hsame hsucc htl hget
      obtain ⟨y1, y2, y3, y4, y5, y6, y7⟩ := y
      have c0 : wr.cell? ⟨b, i * 7, none⟩ = some (.int .i64 y1) := hcl 0 _ rfl
      have c1 := hcl 1 _ rfl
      have c4 := hcl 4 _ rfl
      have c6 := hcl 6 _ rfl
      have HSA := Lib.hid hsame
      have HSU := Lib.hid hsucc
      have HTL := Lib.hid htl
      have HGE := Lib.hid hget
      have HX := Lib.hid (show (i + 1) * 8 ≤ 140737488355328 from by omega)
      clear hcl hy hsame hsucc htl hget hiE hi
      by_cases hs1 : y2 = 16
      · by_cases hd : y7 ≤ now
        · have hhit : hit 16 now ⟨y1, y2, y3, y4, y5, y6, y7⟩ = true := by unfold hit; simp [hs1, hd]
          have hupd : upd 16 now ⟨y1, y2, y3, y4, y5, y6, y7⟩ = ⟨y1, y2, y3, y4, y5, y6, wrap64 (now + y5)⟩ := by unfold upd; rw [if_pos ⟨hs1, hd⟩]
          rw [hhit, if_pos rfl] at HTL
          rw [hupd] at HSU
          clear hhit hupd
          go_wp2_with (at_builtin; refine Kd.R_append (Kd.int .i64) (w0 := wr) w2.heap.size rfl (.tmp 55) (.tmp 61) 36 3 (.int .i64 0) 8 rfl Try.underlying36 info3 rfl (by decide) (by omega) u8 (takeL (E.take i) 16 now) y1 [.int .i64 y1] (fun _ => True) (fun _ => False) rfl (by simp [Act.eval]) ?aP (fun _ hk => hk.elim) ?aF ?aO ?aB ?aS ?aL ?_; (case aP => rfl); (case aF => exact (fun _ _ => trivial)); (case aO => exact HO.out); (case aB => exact Below.refl _ _); (case aS => exact HM.out.size); (case aL => have h1 := takeL_len (E.take i) 16 now; rw [List.length_take] at h1; have := HX.out; omega); intro v1 w10 ho hb hgr hat; have hT10 := HTb.out.below2 hb hg hbl; have d4 := (hb.cell (p := ⟨b, i * 7 + 4, none⟩) hbl).trans c4; have d6 := (hb.cell (p := ⟨b, i * 7 + 6, none⟩) hbl).trans c6; have hfz := hT10.unfrozen (i * 7 + 6); have HT10 := Aside0.mk hT10; have HO2 := Aside0.mk ho; have HM2 := Aside0.mk (HM.out.below hb); clear ho hb hgr hat hT10)
          refine Cu.handed (n - (i + 1)) (by have := HK.out; omega) (by assumption) ?_ (by kernel_rfl) (by kernel_rfl)
          try dsimp only [Cu.pick, Cu.rep, Cu.nth]
          have hdue := HT10.out.due i (by rw [half_len]; have := HN.out; omega) (wrap64 (now + y5))
          rw [HGE.out] at hdue
          refine ⟨i + 1, by rw [Int.natCast_add]; rfl, ⟨by have := HK.out; omega⟩, ⟨?_⟩, ⟨?_⟩, ⟨HM2.out.trans hdue.2⟩⟩
          · rw [HTL.out]
            obtain ⟨cs9, hcs9⟩ := Tab.blk77 HT10.out
            exact Kd.R_set HO2.out hcs9 (by decide) _ _
          · rw [HSU.out]
            exact hdue.1
        · go_wp2_with fail
          refine Cu.handed (n - (i + 1)) (by have := HK.out; omega) (by assumption) ?_ (by kernel_rfl) (by kernel_rfl)
          try dsimp only [Cu.pick, Cu.rep, Cu.nth]
          exact ⟨i + 1, by rw [Int.natCast_add]; rfl, ⟨by have := HK.out; omega⟩, ⟨by rw [HTL.out, show hit 16 now ⟨y1, y2, y3, y4, y5, y6, y7⟩ = false from by unfold hit; simp; omega, if_neg (by decide), List.append_nil]; exact HO.out⟩, ⟨by rw [HSA.out (by unfold hit; simp; omega)]; exact HTb.out⟩, ⟨HM.out⟩⟩
      · go_wp2_with fail
        refine Cu.handed (n - (i + 1)) (by have := HK.out; omega) (by assumption) ?_ (by kernel_rfl) (by kernel_rfl)
        try dsimp only [Cu.pick, Cu.rep, Cu.nth]
        exact ⟨i + 1, by rw [Int.natCast_add]; rfl, ⟨by have := HK.out; omega⟩, ⟨by rw [HTL.out, show hit 16 now ⟨y1, y2, y3, y4, y5, y6, y7⟩ = false from by unfold hit; simp; omega, if_neg (by decide), List.append_nil]; exact HO.out⟩, ⟨by rw [HSA.out (by unfold hit; simp; omega)]; exact HTb.out⟩, ⟨HM.out⟩⟩
    · go_wp2
      go_ret2
      obtain rfl : i = n := by have := HK.out; omega
      exact ⟨_, _, rfl, (HF.out _ _ ⟨HO.out, HTb.out, HM.out⟩).1, (HF.out _ _ ⟨HO.out, HTb.out, HM.out⟩).2.1, HM.out⟩
set_option maxHeartbeats 4000000 in
set_option maxRecDepth 100000 in
theorem take_no (g : Nat) (s now : Int) (W : World) (hno : ¬ ((senOk s = true ∨ s = 16) ∧ timeOk now = true)) : Calls Try.prog 11 #[.pointer (some ⟨g, 0, none⟩), .int .i64 s, .int .i64 now] W fun e w' => e = .returned (.tuple #[.slice none 0 0, .int .i64 1]) ∧ w' = W := by
  have hsen := fun w => sensor_ s w
  have htim := fun w => time_ now w
  have HS := Lib.hid hsen
  have HT := Lib.hid htim
  have hb : (senOk s = false ∧ s ≠ 16) ∨ (timeOk now = false ∧ (senOk s = true ∨ (senOk s = false ∧ s = 16))) := by
    cases h1 : senOk s <;> cases h2 : timeOk now <;> by_cases h3 : s = 16 <;> simp_all
  clear hsen htim hno
  generalize senOk s = b1 at *
  generalize timeOk now = b2 at *
  go_enter Try.func11, Try.ntmps11
  rcases hb with ⟨rfl, h3⟩ | ⟨rfl, rfl | ⟨rfl, rfl⟩⟩
  all_goals
    go_wp2_with (first | (go_at_call 32; refine (HS.out _).mono ?_; rintro e w2 ⟨rfl, rfl⟩) | (go_at_call 33; refine (HT.out _).mono ?_; rintro e w2 ⟨rfl, rfl⟩))
    go_ret2
    exact ⟨rfl, rfl⟩
end Go.Proofs.Ytfdfnmlbmijdjaa.Rt
