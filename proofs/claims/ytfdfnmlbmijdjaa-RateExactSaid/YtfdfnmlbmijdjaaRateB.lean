/-
  Walks of package rate: where a key stands.
  No conditions.
-/
import Derived.Test.YtfdfnmlbmijdjaaRateA
import Derived.Lib.Hide
import Derived.Deep.QuietTactic
import Derived.Deep.DeepCutAuto
import Derived.Deep.CutBlock
import Derived.Deep.RegionHeld3
namespace Go.Proofs.Ytfdfnmlbmijdjaa.Rt
open Go.RowKit Go.Lib Go.Proofs.YtfdfnmlbmijdjaaW.PrintWords Go.Proofs.YtfdfnmlbmijdjaaW.PrintLast Go.Proofs.YtfdfnmlbmijdjaaW.PrintMore
set_option linter.unusedVariables false
set_option linter.unusedSimpArgs false
def Hold (w : World) (b : Nat) (E : List Ent) : Prop := ∀ j, j < E.length → ∀ k u, (enc E[j]!)[k]? = some u → w.cell? ⟨b, j * 7 + k, none⟩ = some u
def Sorted (E : List Ent) : Prop := ∀ i j, i < j → j < E.length → ord E[i]!.c E[i]!.s E[j]!.c E[j]!.s < 0
def posOf (E : List Ent) (kc ks : Int) : Nat := E.countP fun x => decide (ord x.c x.s kc ks < 0)
def isAt (E : List Ent) (kc ks : Int) : Bool := decide (posOf E kc ks < E.length) && decide (ord E[posOf E kc ks]!.c E[posOf E kc ks]!.s kc ks = 0)
theorem keep9 {w w2 : World} {a1 a2 a3 a4 a5 a6 a7 a8 a9 : Addr} {v1 v2 v3 v4 v5 v6 v7 v8 v9 : Value} (h : w.cell? a1 = some v1 ∧ w.cell? a2 = some v2 ∧ w.cell? a3 = some v3 ∧ w.cell? a4 = some v4 ∧ w.cell? a5 = some v5 ∧ w.cell? a6 = some v6 ∧ w.cell? a7 = some v7 ∧ w.cell? a8 = some v8 ∧ w.cell? a9 = some v9) (hb : Below w.heap.size w w2) : w2.cell? a1 = some v1 ∧ w2.cell? a2 = some v2 ∧ w2.cell? a3 = some v3 ∧ w2.cell? a4 = some v4 ∧ w2.cell? a5 = some v5 ∧ w2.cell? a6 = some v6 ∧ w2.cell? a7 = some v7 ∧ w2.cell? a8 = some v8 ∧ w2.cell? a9 = some v9 :=
  ⟨pw_cell_below hb h.1, pw_cell_below hb h.2.1, pw_cell_below hb h.2.2.1, pw_cell_below hb h.2.2.2.1, pw_cell_below hb h.2.2.2.2.1, pw_cell_below hb h.2.2.2.2.2.1, pw_cell_below hb h.2.2.2.2.2.2.1, pw_cell_below hb h.2.2.2.2.2.2.2.1, pw_cell_below hb h.2.2.2.2.2.2.2.2⟩
theorem keep_last {w w2 : World} {a : Addr} {v : Value} (hb : Below w.drew.heap.size w.drew w2) (h : w.cell? a = some v) : w2.cell? a = some v := pw_cell_below hb h
theorem countP_split {α : Type} [Inhabited α] (p : α → Bool) : ∀ (l : List α) (i : Nat), i ≤ l.length → (∀ t, t < i → p l[t]! = true) → (∀ t, i ≤ t → t < l.length → p l[t]! = false) → l.countP p = i
  | [], i, hi, _, _ => by simp at hi; simp [hi]
  | a :: r, 0, _, _, h2 => by
    rw [List.countP_eq_zero]
    intro x hx
    obtain ⟨t, ht, rfl⟩ := List.getElem_of_mem hx
    have := h2 t (Nat.zero_le _) ht
    rw [getElem!_pos (a :: r) t ht] at this
    simp [this]
  | a :: r, i + 1, hi, h1, h2 => by
    have ha : p a = true := by simpa using h1 0 (Nat.succ_pos _)
    rw [List.countP_cons_of_pos ha, countP_split p r i (by simpa using hi) (fun t ht => by simpa using h1 (t + 1) (by omega)) (fun t h3 h4 => by simpa using h2 (t + 1) (by omega) (by simpa using h4))]
set_option maxHeartbeats 8000000 in
set_option maxRecDepth 100000 in
theorem search_ (E : List Ent) (kc ks : Int) (W : World) (b c bx g : Nat) (hH : Hold W b E) (hb : b < W.heap.size) (hmono : ∀ i j, i ≤ j → j < E.length → ord E[j]!.c E[j]!.s kc ks < 0 → ord E[i]!.c E[i]!.s kc ks < 0) (hsz : E.length < 4611686018427387904) (hx : W.cell? ⟨bx, 0, none⟩ = some (.pointer (some ⟨g, 0, none⟩))) (hg : W.cell? ⟨g, 1, none⟩ = some (.func (.func 28) #[] #[])) : Calls Try.prog 51 #[.slice (some ⟨b, 0, none⟩) E.length c, .agg #[.int .i64 kc, .int .i64 ks], .func (.func 52) #[] #[.pointer (some ⟨bx, 0, none⟩)]] W fun e w' => e = .returned (.tuple #[.int .i64 (posOf E kc ks : Nat), .bool (isAt E kc ks)]) ∧ Below W.heap.size W w' := by
  have hbx := World.block_lt_of_cell? W _ hx
  have hgx := World.block_lt_of_cell? W _ hg
  have hi77 := info77
  have HH := Lib.hid hH
  have HM := Lib.hid hmono
  have HB0 := Lib.hid (Below.refl W.heap.size W)
  have hcf : ∀ (W' : World), Below W.heap.size W W' → ∀ x : Ent, Calls Try.prog 52 #[encV x, .agg #[.int .i64 kc, .int .i64 ks], .pointer (some ⟨bx, 0, none⟩)] W' fun e w' => e = .returned (.int .i64 (ord x.c x.s kc ks)) ∧ Below W'.heap.size W' w' := fun W' hB x => find1_ x kc ks W' bx g ((hB.cell hbx).trans hx) ((hB.cell hgx).trans hg)
  have HC := Lib.hid hcf
  clear hcf hH hmono hx hg
  generalize hcnt : posOf E kc ks = cnt
  have CN := Lib.hid hcnt
  generalize hfin : isAt E kc ks = fin
  have FIN := Lib.hid hfin
  clear hcnt hfin
  go_enter Try.func51, Try.ntmps51
  go_upto_block 0 with fail
  have HB1 := Lib.hid (below_alloc (Below.refl W.heap.size W) (Obj.cells #[.int .i64 kc, .int .i64 ks] 72))
  have hbb : b < W.heap.size := hb
  go_cut [9] (fun v9 wr => v9 = .int .i64 (cnt : Int) ∧ RowKit.Hid (Below W.heap.size W wr ∧ cnt ≤ E.length) ∧ wr.cell? ⟨W.heap.size, 0, none⟩ = some (.int .i64 kc) ∧ wr.cell? ⟨W.heap.size, 1, none⟩ = some (.int .i64 ks))
  case first =>
    go_wp2_with fail
    go_loopg [9, 10] E.length (fun kx s9 s10 wr => ∃ lo hi : Nat, s9 = .int .i64 lo ∧ s10 = .int .i64 hi ∧ lo ≤ hi ∧ hi ≤ E.length ∧ hi - lo ≤ kx ∧ RowKit.Hid (Below W.heap.size W wr) ∧ wr.cell? ⟨W.heap.size, 0, none⟩ = some (.int .i64 kc) ∧ wr.cell? ⟨W.heap.size, 1, none⟩ = some (.int .i64 ks) ∧
      RowKit.Hid ((∀ t, t < lo → ord E[t]!.c E[t]!.s kc ks < 0) ∧ (∀ t, hi ≤ t → t < E.length → 0 ≤ ord E[t]!.c E[t]!.s kc ks)))
    case atStart => exact ⟨0, E.length, rfl, rfl, Nat.zero_le _, Nat.le_refl _, by omega, HB1, by simp, by simp, ⟨fun t ht => absurd ht (Nat.not_lt_zero _), fun t h1 h2 => by omega⟩⟩
    case round =>
      obtain ⟨lo, hi, rfl, rfl, hlh, hin, hg, S1, k0, k1, I⟩ := hrel
      by_cases hlt : lo < hi
      · have hcl : ∀ k u, (enc E[(lo + hi) / 2]!)[k]? = some u → wr.cell? ⟨b, (lo + hi) / 2 * 7 + k, none⟩ = some u := fun k u hu => (S1.out.cell hbb).trans (HH.out _ (by omega) k u hu)
        generalize hy : E[(lo + hi) / 2]! = y at hcl
        have Y := Lib.hid hy
        clear hy
        obtain ⟨y1, y2, y3, y4, y5, y6, y7⟩ := y
        have c0 : wr.cell? ⟨b, (lo + hi) / 2 * 7, none⟩ = some (.int .i64 y1) := hcl 0 _ rfl
        have q0 : (0 : Int) ≤ ((lo : Int) + hi) / 2 := by omega
        have q1 : ((lo : Int) + hi) / 2 < (E.length : Int) := by omega
        have q2 : (((lo : Int) + hi) / 2).toNat = (lo + hi) / 2 := by omega
        have q3 : 0 ≤ (lo : Int) + hi := by omega
        have c1 := hcl 1 _ rfl
        have c2 := hcl 2 _ rfl
        have c3 := hcl 3 _ rfl
        have c4 := hcl 4 _ rfl
        have c5 := hcl 5 _ rfl
        have c6 := hcl 6 _ rfl
        clear hcl
        obtain ⟨r, hr⟩ : ∃ r, r = ord y1 y2 kc ks := ⟨_, rfl⟩
        have hcr : ∀ (W' : World), Below W.heap.size W W' → Calls Try.prog 52 #[encV ⟨y1, y2, y3, y4, y5, y6, y7⟩, .agg #[.int .i64 kc, .int .i64 ks], .pointer (some ⟨bx, 0, none⟩)] W' fun e w' => e = .returned (.int .i64 r) ∧ Below W'.heap.size W' w' := fun W' hB => by rw [hr]; exact HC.out W' hB ⟨y1, y2, y3, y4, y5, y6, y7⟩
        have HCR := Lib.hid hcr
        have HR := Lib.hid hr
        clear hcr hr
        by_cases hyx : r < 0
        · go_upto_region 5 with fail
          go_region_held3 (fun w' : World => w'.cell? ⟨b, (lo + hi) / 2 * 7, none⟩ = some (.int .i64 y1) ∧ w'.cell? ⟨b, (lo + hi) / 2 * 7 + 1, none⟩ = some (.int .i64 y2) ∧ w'.cell? ⟨b, (lo + hi) / 2 * 7 + 2, none⟩ = some (.int .i64 y3) ∧ w'.cell? ⟨b, (lo + hi) / 2 * 7 + 3, none⟩ = some (.int .i64 y4) ∧ w'.cell? ⟨b, (lo + hi) / 2 * 7 + 4, none⟩ = some (.int .i64 y5) ∧ w'.cell? ⟨b, (lo + hi) / 2 * 7 + 5, none⟩ = some (.int .i64 y6) ∧ w'.cell? ⟨b, (lo + hi) / 2 * 7 + 6, none⟩ = some (.int .i64 y7) ∧ w'.cell? ⟨W.heap.size, 0, none⟩ = some (.int .i64 kc) ∧ w'.cell? ⟨W.heap.size, 1, none⟩ = some (.int .i64 ks)) (first | with_reducible assumption | exact ⟨c0, c1, c2, c3, c4, c5, c6, k0, k1⟩ | exact keep9 (by assumption) (by assumption)) (first | (go_at_call 52; refine (HCR.out _ (below_drew S1.out)).mono ?_; rintro e w2 ⟨rfl, hb2⟩))
          have S2 : RowKit.Hid (Below W.heap.size W w2) := below_step (below_drew S1.out) hb2
          have K0 := keep_last hb2 k0
          have K1 := keep_last hb2 k1
          go_wp2
          go_roundg (hi - ((lo + hi) / 2 + 1))
          case measure => omega
          case rel =>
            have I2 : RowKit.Hid ((∀ t, t < (lo + hi) / 2 + 1 → ord E[t]!.c E[t]!.s kc ks < 0) ∧ (∀ t, hi ≤ t → t < E.length → 0 ≤ ord E[t]!.c E[t]!.s kc ks)) := ⟨fun t ht => HM.out t ((lo + hi) / 2) (by omega) (by omega) (by rw [Y.out, ← HR.out]; exact hyx), I.out.2⟩
            exact ⟨(lo + hi) / 2 + 1, hi, by rw [show ((lo : Int) + (hi : Int)) / 2 + 1 = (((lo + hi) / 2 + 1 : Nat) : Int) by omega], rfl, by omega, hin, Nat.le_refl _, S2, K0, K1, I2⟩
        · go_upto_region 5 with fail
          go_region_held3 (fun w' : World => w'.cell? ⟨b, (lo + hi) / 2 * 7, none⟩ = some (.int .i64 y1) ∧ w'.cell? ⟨b, (lo + hi) / 2 * 7 + 1, none⟩ = some (.int .i64 y2) ∧ w'.cell? ⟨b, (lo + hi) / 2 * 7 + 2, none⟩ = some (.int .i64 y3) ∧ w'.cell? ⟨b, (lo + hi) / 2 * 7 + 3, none⟩ = some (.int .i64 y4) ∧ w'.cell? ⟨b, (lo + hi) / 2 * 7 + 4, none⟩ = some (.int .i64 y5) ∧ w'.cell? ⟨b, (lo + hi) / 2 * 7 + 5, none⟩ = some (.int .i64 y6) ∧ w'.cell? ⟨b, (lo + hi) / 2 * 7 + 6, none⟩ = some (.int .i64 y7) ∧ w'.cell? ⟨W.heap.size, 0, none⟩ = some (.int .i64 kc) ∧ w'.cell? ⟨W.heap.size, 1, none⟩ = some (.int .i64 ks)) (first | with_reducible assumption | exact ⟨c0, c1, c2, c3, c4, c5, c6, k0, k1⟩ | exact keep9 (by assumption) (by assumption)) (first | (go_at_call 52; refine (HCR.out _ (below_drew S1.out)).mono ?_; rintro e w2 ⟨rfl, hb2⟩))
          have S2 : RowKit.Hid (Below W.heap.size W w2) := below_step (below_drew S1.out) hb2
          have K0 := keep_last hb2 k0
          have K1 := keep_last hb2 k1
          go_wp2
          go_roundg ((lo + hi) / 2 - lo)
          case measure => omega
          case rel =>
            have I2 : RowKit.Hid ((∀ t, t < lo → ord E[t]!.c E[t]!.s kc ks < 0) ∧ (∀ t, (lo + hi) / 2 ≤ t → t < E.length → 0 ≤ ord E[t]!.c E[t]!.s kc ks)) := ⟨I.out.1, fun t ht htn => Int.not_lt.1 fun h => by have := HM.out ((lo + hi) / 2) t ht htn h; rw [Y.out, ← HR.out] at this; omega⟩
            exact ⟨lo, (lo + hi) / 2, rfl, by rw [show ((lo : Int) + (hi : Int)) / 2 = (((lo + hi) / 2 : Nat) : Int) by omega], by omega, by omega, Nat.le_refl _, S2, K0, K1, I2⟩
      · obtain rfl : hi = lo := by omega
        have ecnt : cnt = hi := by
          rw [← CN.out]
          refine countP_split (fun x => decide (ord x.c x.s kc ks < 0)) E hi hin (fun t ht => ?_) (fun t h3 h4 => ?_)
          · exact decide_eq_true (I.out.1 t ht)
          · exact decide_eq_false (by have := I.out.2 t h3 h4; omega)
        subst ecnt
        go_wp2
        go_meet
        exact ⟨rfl, ⟨S1.out, hin⟩, k0, k1⟩
  case rest =>
    obtain ⟨hv9, S1, k0, k1⟩ := hcut
    subst hv9
    by_cases hn : cnt < E.length
    · have hcl : ∀ k u, (enc E[cnt]!)[k]? = some u → wc.cell? ⟨b, cnt * 7 + k, none⟩ = some u := fun k u hu => (S1.out.1.cell hbb).trans (HH.out _ hn k u hu)
      have hfi : fin = decide (ord E[cnt]!.c E[cnt]!.s kc ks = 0) := by rw [← FIN.out]; unfold isAt; rw [CN.out]; simp [hn]
      generalize hy : E[cnt]! = y at hcl hfi
      have Y := Lib.hid hy
      clear hy
      obtain ⟨y1, y2, y3, y4, y5, y6, y7⟩ := y
      have c0 : wc.cell? ⟨b, cnt * 7, none⟩ = some (.int .i64 y1) := hcl 0 _ rfl
      have c1 := hcl 1 _ rfl
      have c2 := hcl 2 _ rfl
      have c3 := hcl 3 _ rfl
      have c4 := hcl 4 _ rfl
      have c5 := hcl 5 _ rfl
      have c6 := hcl 6 _ rfl
      clear hcl
      obtain ⟨r, hr⟩ : ∃ r, r = ord y1 y2 kc ks := ⟨_, rfl⟩
      have hcr : ∀ (W' : World), Below W.heap.size W W' → Calls Try.prog 52 #[encV ⟨y1, y2, y3, y4, y5, y6, y7⟩, .agg #[.int .i64 kc, .int .i64 ks], .pointer (some ⟨bx, 0, none⟩)] W' fun e w' => e = .returned (.int .i64 r) ∧ Below W'.heap.size W' w' := fun W' hB => by rw [hr]; exact HC.out W' hB ⟨y1, y2, y3, y4, y5, y6, y7⟩
      have HCR := Lib.hid hcr
      simp only at hfi
      rw [← hr] at hfi
      have HFI := Lib.hid hfi
      clear hcr hr hfi
      by_cases hyx : r = 0
      · go_upto_region 8 with fail
        go_region_held3 (fun w' : World => w'.cell? ⟨b, cnt * 7, none⟩ = some (.int .i64 y1) ∧ w'.cell? ⟨b, cnt * 7 + 1, none⟩ = some (.int .i64 y2) ∧ w'.cell? ⟨b, cnt * 7 + 2, none⟩ = some (.int .i64 y3) ∧ w'.cell? ⟨b, cnt * 7 + 3, none⟩ = some (.int .i64 y4) ∧ w'.cell? ⟨b, cnt * 7 + 4, none⟩ = some (.int .i64 y5) ∧ w'.cell? ⟨b, cnt * 7 + 5, none⟩ = some (.int .i64 y6) ∧ w'.cell? ⟨b, cnt * 7 + 6, none⟩ = some (.int .i64 y7) ∧ w'.cell? ⟨W.heap.size, 0, none⟩ = some (.int .i64 kc) ∧ w'.cell? ⟨W.heap.size, 1, none⟩ = some (.int .i64 ks)) (first | with_reducible assumption | exact ⟨c0, c1, c2, c3, c4, c5, c6, k0, k1⟩ | exact keep9 (by assumption) (by assumption)) (first | (go_at_call 52; refine (HCR.out _ (below_drew S1.out.1)).mono ?_; rintro e w2 ⟨rfl, hb2⟩))
        have S2 : RowKit.Hid (Below W.heap.size W w2) := below_step (below_drew S1.out.1) hb2
        go_wp2
        go_ret2
        refine ⟨?_, S2⟩
        rw [HFI.out]
        simp [hyx]
      · go_upto_region 8 with fail
        go_region_held3 (fun w' : World => w'.cell? ⟨b, cnt * 7, none⟩ = some (.int .i64 y1) ∧ w'.cell? ⟨b, cnt * 7 + 1, none⟩ = some (.int .i64 y2) ∧ w'.cell? ⟨b, cnt * 7 + 2, none⟩ = some (.int .i64 y3) ∧ w'.cell? ⟨b, cnt * 7 + 3, none⟩ = some (.int .i64 y4) ∧ w'.cell? ⟨b, cnt * 7 + 4, none⟩ = some (.int .i64 y5) ∧ w'.cell? ⟨b, cnt * 7 + 5, none⟩ = some (.int .i64 y6) ∧ w'.cell? ⟨b, cnt * 7 + 6, none⟩ = some (.int .i64 y7) ∧ w'.cell? ⟨W.heap.size, 0, none⟩ = some (.int .i64 kc) ∧ w'.cell? ⟨W.heap.size, 1, none⟩ = some (.int .i64 ks)) (first | with_reducible assumption | exact ⟨c0, c1, c2, c3, c4, c5, c6, k0, k1⟩ | exact keep9 (by assumption) (by assumption)) (first | (go_at_call 52; refine (HCR.out _ (below_drew S1.out.1)).mono ?_; rintro e w2 ⟨rfl, hb2⟩))
        have S2 : RowKit.Hid (Below W.heap.size W w2) := below_step (below_drew S1.out.1) hb2
        go_wp2
        go_ret2
        refine ⟨?_, S2⟩
        rw [HFI.out]
        simp [hyx]
    · have hfi : fin = false := by rw [← FIN.out]; unfold isAt; rw [CN.out]; simp [hn]
      obtain rfl : cnt = E.length := by have := S1.out.2; omega
      go_upto_region 8 with fail
      go_quiet (fail)
      go_wp2
      go_ret2
      refine ⟨?_, pw_below_drewN S1.out.1 nq⟩
      simp
end Go.Proofs.Ytfdfnmlbmijdjaa.Rt
