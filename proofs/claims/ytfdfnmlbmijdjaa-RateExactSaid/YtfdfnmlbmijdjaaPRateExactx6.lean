import Derived.Test.YtfdfnmlbmijdjaaPRateExactx0
import Derived.Test.YtfdfnmlbmijdjaaPRateExactx2
import Derived.Test.YtfdfnmlbmijdjaaPRateExactx3
import Derived.Test.YtfdfnmlbmijdjaaPRateExactx5
namespace Go.Proofs.Ytfdfnmlbmijdjaa.PRateExact
open Go.RowKit Go.Proofs.YtfdfnmlbmijdjaaW.PrintWords Go.Proofs.YtfdfnmlbmijdjaaW.PrintLast Go.Proofs.YtfdfnmlbmijdjaaW.PrintMore
attribute [local go_sem] max2_int min2_int max_two min_two max_three min_three max_four min_four   -- for this text's walks alone
set_option linter.unusedVariables false
set_option linter.unusedSimpArgs false

/-! ### gimballaw27_RateExact: function 5 -/
-- given
def Ex.IsR (w0 W : World) (g : Nat) (E : Rt.Tb) : Prop := w0.heap.size ≤ g ∧ ∃ v, Rt.RTab w0.heap.size W g v E
theorem Ex.IsR.below {w0 W W1 : World} {g : Nat} {E : Rt.Tb} (h : Ex.IsR w0 W g E) (hb : Below W.heap.size W W1) : Ex.IsR w0 W1 g E := by
  obtain ⟨h1, v, hT⟩ := h
  exact ⟨h1, v, hT.below hb⟩
theorem Ex.IsR.drewN {w0 W : World} {g : Nat} {E : Rt.Tb} (h : Ex.IsR w0 W g E) (m : Nat) : Ex.IsR w0 (W.drewN m) g E := h.below (pw_below_drewN (Below.refl _ _) m)
theorem Ex.IsR.blk {w0 W : World} {g : Nat} {E : Rt.Tb} (h : Ex.IsR w0 W g E) : ∃ cs, W.heap[g]? = some (.cells cs 49 (0, 0)) := by
  obtain ⟨h1, v, hT⟩ := h
  exact ⟨_, hT.1⟩
theorem Ex.tyne {W : World} {a b t u : Nat} {cs ds : Array Value} {f1 f2 : Nat × Nat} (ha : W.heap[a]? = some (.cells cs t f1)) (hb : W.heap[b]? = some (.cells ds u f2)) (h : t ≠ u) : a ≠ b := by
  rintro rfl
  rw [ha] at hb
  injection hb with hb
  injection hb with _ hb _
  exact h hb
/-- The page's table under any change that leaves its two blocks. -/
theorem Ex.IsR.move {w0 W W1 : World} {g : Nat} {E : Rt.Tb} (h : Ex.IsR w0 W g E) (hm : ∀ k cs t fr, k < W.heap.size → W.heap[k]? = some (.cells cs t fr) → (t = 49 ∨ t = 80) → W1.heap[k]? = W.heap[k]?) : Ex.IsR w0 W1 g E := by
  obtain ⟨h1, v, hT⟩ := h
  refine ⟨h1, v, (hm g _ _ _ (blk_lt hT.1) hT.1 (.inl rfl)).trans hT.1, ?_⟩
  obtain ⟨h0, inner, ho, hr⟩ := hT.2
  refine ⟨h0, inner, own_move ho (fun k hk => ?_), hr.imp_ (fun p cs hp => by rw [Rt.kE_openM hp]; exact Rt.kE_mkM _ _ _ _)⟩
  obtain ⟨cs, hc⟩ := own_typed ho k hk
  exact hm k _ _ _ (own_lt ho k hk) hc (.inr rfl)
theorem Ex.IsS.move {w0 W W1 : World} {g : Nat} {E : Rt.Tb} (h : IsS65 w0 W g E) (hm : ∀ k cs t fr, k < W.heap.size → W.heap[k]? = some (.cells cs t fr) → (t = 65 ∨ t = 77) → W1.heap[k]? = W.heap[k]?) : IsS65 w0 W1 g E := by
  obtain ⟨h1, h2, v, hT⟩ := h
  refine ⟨h1, h2, v, (hm g _ _ _ (blk_lt hT.1) hT.1 (.inl rfl)).trans hT.1, own_move hT.2 (fun k hk => ?_)⟩
  obtain ⟨cs, hc⟩ := own_typed hT.2 k hk
  exact hm k _ _ _ (own_lt hT.2 k hk) hc (.inr rfl)
theorem Ex.IsR.keep {w0 W W1 : World} {g g2 : Nat} {E F : Rt.Tb} (h : Ex.IsR w0 W g2 E) (hI : IsS65 w0 W g F) (hk : KeepBut W W1 g none) : Ex.IsR w0 W1 g2 E := by
  obtain ⟨cs, hg⟩ := hI.blk
  refine h.move (fun k c t fr hlt hc ht => hk.2 k hlt (Ex.tyne hc hg (by rcases ht with rfl | rfl <;> decide)) (by simp) (fun c2 r2 e => ?_))
  rw [hc] at e
  injection e with e
  injection e with _ e _
  rcases ht with rfl | rfl <;> exact absurd e (by decide)
theorem Ex.IsS.rmov {w0 W W1 : World} {g g2 : Nat} {E F : Rt.Tb} (h : IsS65 w0 W g E) (hR : Ex.IsR w0 W g2 F) (hk : Rt.RMov w0.heap.size W W1 g2) : IsS65 w0 W1 g E := by
  obtain ⟨cs, hg⟩ := hR.blk
  refine Ex.IsS.move h (fun k c t fr hlt hc ht => hk.block k hlt (Ex.tyne hc hg (by rcases ht with rfl | rfl <;> decide)) (.inr (fun c2 r2 e => ?_)))
  rw [hc] at e
  injection e with e
  injection e with _ e _
  rcases ht with rfl | rfl <;> exact absurd e (by decide)
theorem Ex.rblk {base : Nat} {W W1 : World} {g k : Nat} {cs ds : Array Value} {t u : Nat} {f1 f2 : Nat × Nat} (hk : Rt.RMov base W W1 g) (hg : W.heap[g]? = some (.cells ds u f2)) (hb : W.heap[k]? = some (.cells cs t f1)) (h1 : t ≠ u) (h2 : t ≠ 80) : W1.heap[k]? = some (.cells cs t f1) :=
  (hk.block k (blk_lt hb) (Ex.tyne hb hg h1) (.inr (fun c2 r2 e => by
    rw [hb] at e
    injection e with e
    injection e with _ e _
    exact h2 e))).trans hb
theorem Ex.kept_ne {W : World} {k : Nat} {e : Nat} {cs : Array Value} {t : Nat} {fr : Nat × Nat} {base : Nat} {ok : Nat → Prop} {v : Value} {xs : List Int} (ho : Kd.R (Kd.int .i64) e W base ok v xs) (hb : W.heap[k]? = some (.cells cs t fr)) (ht : t ≠ e) : ¬ some k = v.ownBlock := fun h => by
  obtain ⟨inner, ho2⟩ := Kd.R_own ho
  obtain ⟨c2, hc2⟩ := own_typed ho2 k h.symm
  rw [hc2] at hb
  injection hb with hb
  injection hb with _ hb _
  exact ht hb.symm
/-- A row of numbers was written over: both tables stand. -/
theorem Ex.IsR.kept {w0 W W1 : World} {g : Nat} {E : Rt.Tb} {base : Nat} {ok : Nat → Prop} {v : Value} {xs : List Int} (h : Ex.IsR w0 W g E) (ho : Kd.R (Kd.int .i64) 3 W base ok v xs) (hk : Kept W W1 (fun k => some k = v.ownBlock)) : Ex.IsR w0 W1 g E :=
  h.move (fun k c t fr hlt hc ht => hk.2 k hlt (Ex.kept_ne ho hc (by rcases ht with rfl | rfl <;> decide)))
theorem Ex.IsS.kept {w0 W W1 : World} {g : Nat} {E : Rt.Tb} {base : Nat} {ok : Nat → Prop} {v : Value} {xs : List Int} (h : IsS65 w0 W g E) (ho : Kd.R (Kd.int .i64) 3 W base ok v xs) (hk : Kept W W1 (fun k => some k = v.ownBlock)) : IsS65 w0 W1 g E :=
  Ex.IsS.move h (fun k c t fr hlt hc ht => hk.2 k hlt (Ex.kept_ne ho hc (by rcases ht with rfl | rfl <;> decide)))
theorem Ex.rows_rmov {α : Type} {d : Kd α} {e : Nat} {base b0 : Nat} {W W1 : World} {g : Nat} {cs : Array Value} {u : Nat} {fr : Nat × Nat} {ok : Nat → Prop} {v : Value} {xs : List α} (h : Kd.R d e W base ok v xs) (hk : Rt.RMov b0 W W1 g) (hg : W.heap[g]? = some (.cells cs u fr)) (h1 : ∀ q, q ∈ e :: d.E → q ≠ u ∧ q ≠ 80) : Kd.R d e W1 base ok v xs :=
  Kd.R_mono (Kd.R_move (Kd.R_bound h) (fun k ⟨_, _, hlt, q, hq, cells, hc⟩ => hk.block k hlt (Ex.tyne hc hg (h1 q hq).1) (.inr (fun c2 r2 e => by
    rw [hc] at e
    injection e with e
    injection e with _ e _
    exact (h1 q hq).2 e)))) (fun _ hk => hk.1)
set_option linter.unusedSectionVars false
section
variable {w0 w : World} {g : Nat} {E : Rt.Tb} (hR : Ex.IsR w0 w g E) (hB : Below w0.heap.size w0 w) (ho : Rt.Own E) (hl : E.length < 1000000)
include hR hB
theorem Ex.drop (a b : Int) (ho : Rt.Own E) (hl : E.length < 1000000) : Calls Try.prog 18 #[.pointer (some ⟨g, 0, none⟩), .int .i64 a, .int .i64 b] w fun e w' => e = .returned (.bool (Rt.Tb.has E a b)) ∧ Ex.IsR w0 w' g (Rt.Tb.rem E a b) ∧ Below w0.heap.size w0 w' ∧ Rt.RMov w0.heap.size w w' g := by
  obtain ⟨h1, v, hT⟩ := hR
  exact (Rt.rdrop_ w0.heap.size g v E a b w hT hB.size (by omega) ho).mono fun e w' ⟨v1, he, hT1, hM⟩ => ⟨he, ⟨h1, v1, hT1⟩, hM.belowB hB h1 hB.size, hM⟩
theorem Ex.add (a b p q : Int) (ho : Rt.Own E) (hs : Rt.Srt E) (hl : E.length < 1000000) : Calls Try.prog 25 #[.pointer (some ⟨g, 0, none⟩), .agg #[.int .i64 a, .int .i64 b, .int .i64 p, .int .i64 q]] w fun e w' => e = .returned (.tuple #[]) ∧ Ex.IsR w0 w' g (Rt.Tb.add E a b p q) ∧ Below w0.heap.size w0 w' ∧ Rt.RMov w0.heap.size w w' g := by
  obtain ⟨h1, v, hT⟩ := hR
  exact (Rt.radd_ w0.heap.size g v E a b p q w hT hB.size (by omega) ho hs).mono fun e w' ⟨v1, he, hT1, hM⟩ => ⟨he, ⟨h1, v1, hT1⟩, hM.belowB hB h1 hB.size, hM⟩
theorem Ex.take (s now : Int) (hs : s ≤ 15) (ho : Rt.Own E) (hl : E.length < 1000000) : Calls Try.prog 20 #[.pointer (some ⟨g, 0, none⟩), .int .i64 s, .int .i64 now] w fun e w' => ∃ v1 v2, e = .returned (.tuple #[v1, v2]) ∧ Kd.R (Kd.int .i64) 3 w' w.heap.size (fun _ => True) v1 (Rt.takeL E s now) ∧ Ex.IsR w0 w' g (Rt.takeE E s now) ∧ Below w0.heap.size w0 w' ∧ Rt.RMov w0.heap.size w w' g := by
  obtain ⟨h1, v, hT⟩ := hR
  exact (Rt.rtake_ w0.heap.size g v E s now w hT (by omega) hs ho).mono fun e w' ⟨v1, v2, v3, he, hr, hT1, hM⟩ => ⟨v1, v2, he, hr, ⟨h1, v3, hT1⟩, hM.belowB hB h1 hB.size, hM⟩
theorem Ex.needing (dev : Int) (hd : 1 ≤ dev ∧ dev ≤ 5) (ho : Rt.Own E) (hl : E.length < 1000000) : Calls Try.prog 23 #[.pointer (some ⟨g, 0, none⟩), .int .i64 dev] w fun e w' => ∃ v1, e = .returned v1 ∧ Kd.R (Kd.int .i64) 3 w' w.heap.size (fun _ => True) v1 (Rt.needL E dev) ∧ Below w.heap.size w w' := by
  obtain ⟨h1, v, hT⟩ := hR
  exact Rt.rneeding_ w0.heap.size g v E dev w hT (by omega) hd ho
theorem Ex.all (hl : E.length < 1000000) : Calls Try.prog 27 #[.pointer (some ⟨g, 0, none⟩)] w fun e w' => ∃ v1, e = .returned v1 ∧ Kd.R k29 29 w' w.heap.size (fun _ => True) v1 (E.map (fun x => (⟨x.a, x.b, x.p, x.q⟩ : S29))) ∧ Below w.heap.size w w' := by
  obtain ⟨h1, v, hT⟩ := hR
  refine (Rt.rall_ w0.heap.size g v E w hT (by omega)).mono fun e w' ⟨v1, he, hr, hb⟩ => ⟨v1, he, ?_, hb⟩
  have h3 := Rt.R_conv (d' := k29) (fun x : Rt.Sb => (⟨x.a, x.b, x.p, x.q⟩ : S29)) rfl (fun {w base ok x cs} hM => by rw [Rt.kS_openM hM]; exact k29_mkM w base ok ⟨x.a, x.b, x.p, x.q⟩) hr
  rw [List.map_map] at h3
  exact h3
end
set_option maxHeartbeats 4000000 in
theorem Ex.take16 {w0 w : World} {g : Nat} {E : Rt.Tb} (hR : Ex.IsR w0 w g E) (now : Int) (hl : E.length < 1000000) : Calls Try.prog 20 #[.pointer (some ⟨g, 0, none⟩), .int .i64 16, .int .i64 now] w fun e w' => e = .returned (.tuple #[.slice none 0 0, .slice none 0 0]) ∧ w' = w := by
  obtain ⟨h1, v, hT⟩ := hR
  obtain ⟨A, c, rfl⟩ := hT.slice
  have hgc : w.cell? ⟨g, 0, none⟩ = some (.slice A E.length c) := (blk_cell hT.1 0).trans rfl
  obtain ⟨n, hn⟩ : ∃ n, n = E.length := ⟨_, rfl⟩
  rw [← hn] at hgc
  clear hT
  go_enter Try.func20, Try.ntmps20
  go_wp2_with fail
  refine wp_loop_rounds 1 ?_
  rw [rounds_succ]
  by_cases h0 : (0 : Int) < (n : Int)
  · go_wp2
    go_ret2
    exact ⟨rfl, rfl⟩
  · go_wp2
    go_ret2
    exact ⟨rfl, rfl⟩
theorem Ex.rd_get {l : List Int} (i : Nat) (hi : i < l.length) : rd l (i : Int) = l[i] := by
  unfold rd
  rw [Int.toNat_natCast, List.getD_eq_getElem?_getD, List.getElem?_eq_getElem hi]
  rfl
theorem Ex.eqn_f (l : List Int) (hl : l.length < 1000000) : ∃ k, gimbalref0_EqNumbers.f k l l = some true := by
  have h : ∀ d j : Nat, j + d = l.length → gimbalref0_EqNumbers.l0 (d + 1) l l (j : Int) = some true := by
    intro d
    induction d with
    | zero =>
      intro j hj
      rw [gimbalref0_EqNumbers.l0, if_neg (by omega)]
    | succ d ih =>
      intro j hj
      rw [gimbalref0_EqNumbers.l0, if_pos (by omega), if_pos (by omega), if_pos (by omega), if_pos rfl, show wrap64 ((j : Int) + 1) = ((j + 1 : Nat) : Int) by unfold wrap64; omega]
      exact ih (j + 1) (by omega)
  refine ⟨l.length + 1, ?_⟩
  unfold gimbalref0_EqNumbers.f
  rw [if_pos rfl]
  exact h l.length 0 (by omega)
theorem Ex.eqs_f (l : List (S29)) (hl : l.length < 1000000) : ∃ k, gimbalref0_EqSubs.f k l l = some true := by
  have h : ∀ d j : Nat, j + d = l.length → gimbalref0_EqSubs.l0 (d + 1) l l (j : Int) = some true := by
    intro d
    induction d with
    | zero =>
      intro j hj
      rw [gimbalref0_EqSubs.l0, if_neg (by omega)]
    | succ d ih =>
      intro j hj
      rw [gimbalref0_EqSubs.l0, if_pos (by omega), if_pos (by omega), if_pos (by omega), if_neg (by simp), show wrap64 ((j : Int) + 1) = ((j + 1 : Nat) : Int) by unfold wrap64; omega]
      exact ih (j + 1) (by omega)
  refine ⟨l.length + 1, ?_⟩
  unfold gimbalref0_EqSubs.f
  rw [if_pos rfl]
  exact h l.length 0 (by omega)
theorem Ex.num_f (l : List Int) (hl : l.length < 1000000) : ∃ k, gimballaw0_Numbers.f k l = some () := by
  have h : ∀ (d j : Nat) (l : List Int), j + d = l.length → l.length < 1000000 → gimballaw0_Numbers.l0 (d + 1) l (j : Int) = some () := by
    intro d
    induction d with
    | zero =>
      intro j l hj hl
      rw [gimballaw0_Numbers.l0, if_neg (by omega), if_pos (by omega)]
    | succ d ih =>
      intro j l hj hl
      rw [gimballaw0_Numbers.l0, if_pos (by omega), if_pos (by omega), show wrap64 ((j : Int) + 1) = ((j + 1 : Nat) : Int) by unfold wrap64; omega]
      exact ih (j + 1) _ (by rw [List.length_set]; omega) (by rw [List.length_set]; exact hl)
  exact ⟨l.length + 1, h l.length 0 l (by omega) hl⟩
theorem Ex.maySub_f (a b p q : Int) : gimbalref25_MaySub.f a b p q = some (Rt.maySub a b p q) := by
  unfold gimbalref25_MaySub.f gimbalref25_Client.f gimbalref25_Sensor.f gimbalref25_in.f Rt.maySub
  by_cases h1 : 0 ≤ a <;> by_cases h2 : a < 8 <;> by_cases h3 : 1 ≤ b <;> by_cases h4 : b ≤ 15 <;> by_cases h5 : 1 ≤ p <;> by_cases h6 : p ≤ 1000 <;> by_cases h7 : 0 ≤ q <;> by_cases h8 : q ≤ 60000 <;> simp [*, show (a ≤ 7) = (a < 8) from by rw [eq_iff_iff]; omega]
theorem Ex.time_f (t : Int) : gimbalref0_Time.f t = some (Rt.timeOk t) := by
  unfold gimbalref0_Time.f Rt.timeOk
  by_cases h : t ≥ 0
  · rw [if_pos h, decide_eq_true (show 0 ≤ t from h), Bool.true_and]
  · rw [if_neg h, decide_eq_false (show ¬ 0 ≤ t from h), Bool.false_and]
theorem Ex.within (x : Int) (n : Nat) (h0 : 0 < n) (hn : n < 100000) : ∃ m : Nat, m < n ∧ ∀ W, Calls Try.prog 7 #[.int .i64 x, .int .i64 (n : Int)] W fun e w' => e = .returned (.int .i64 (m : Int)) ∧ Drawn0 W w' := by
  have hw : IntKind.u64.wrap (n : Int) = n := by rw [IntKind.wrap_u64]; omega
  have h1 : 0 ≤ IntKind.u64.wrap x := by rw [IntKind.wrap_u64]; omega
  have h2 : Int.tmod (IntKind.u64.wrap x) n = (IntKind.u64.wrap x) % n := Int.tmod_eq_emod_of_nonneg h1
  have h3 := Int.emod_nonneg (IntKind.u64.wrap x) (show (n : Int) ≠ 0 by omega)
  have h4 := Int.emod_lt_of_pos (IntKind.u64.wrap x) (show (0 : Int) < n by omega)
  refine ⟨((IntKind.u64.wrap x) % n).toNat, by omega, fun W => gimballaw0_Within.calls x n _ W ?_⟩
  unfold gimballaw0_Within.f
  rw [hw, if_neg (by omega), h2]
  congr 1
  unfold wrap64
  omega
theorem Ex.wakes_f : ∃ k, gimballaw27_wakes.f k = some true := by
  refine ⟨3, ?_⟩
  simp [gimballaw27_wakes.f, rate_New.f, rate_Table_Add.f, Rt.maySub, Rt.Tb.add, gimballaw27_num.f, rate_Table_Take.f, Rt.senOk, Rt.timeOk, Rt.takeL, Rt.hit, gimbalref0_EqNumbers.f, gimbalref0_EqNumbers.l0, rd, wrap64]
theorem Ex.c6 {w : World} {b t : Nat} {x0 x1 x2 x3 x4 x5 : Value} (h : w.heap[b]? = some (.cells #[x0, x1, x2, x3, x4, x5] t (0, 0))) : w.cell? ⟨b, 0, none⟩ = some x0 ∧ w.cell? ⟨b, 1, none⟩ = some x1 ∧ w.cell? ⟨b, 2, none⟩ = some x2 ∧ w.cell? ⟨b, 3, none⟩ = some x3 ∧ w.cell? ⟨b, 4, none⟩ = some x4 ∧ w.cell? ⟨b, 5, none⟩ = some x5 := by
  refine ⟨?_, ?_, ?_, ?_, ?_, ?_⟩
  · exact (blk_cell h 0).trans (by rfl)
  · exact (blk_cell h 1).trans (by rfl)
  · exact (blk_cell h 2).trans (by rfl)
  · exact (blk_cell h 3).trans (by rfl)
  · exact (blk_cell h 4).trans (by rfl)
  · exact (blk_cell h 5).trans (by rfl)
/-- Only sensors that there are. -/
def Ex.Sen (E : Rt.Tb) : Prop := ∀ x ∈ E, x.s ≤ 15
theorem Ex.Sen.add {E : Rt.Tb} (h : Ex.Sen E) {a b p q : Int} (hb : b ≤ 15) : Ex.Sen (Rt.Tb.add E a b p q) := fun x hx => by
  rcases Rt.mem_add hx with hx | ⟨_, rfl⟩
  · exact h x hx
  · exact hb
theorem Ex.Sen.rem {E : Rt.Tb} (h : Ex.Sen E) (a b : Int) : Ex.Sen (Rt.Tb.rem E a b) := fun x hx => h x ((Rt.rem_sub E a b).subset hx)
theorem Ex.upd_ab (s now : Int) (x : Rt.Ent) : (Rt.upd s now x).a = x.a ∧ (Rt.upd s now x).b = x.b := by
  unfold Rt.upd
  split <;> exact ⟨rfl, rfl⟩
theorem Ex.Sen.take {E : Rt.Tb} (h : Ex.Sen E) (s now : Int) : Ex.Sen (Rt.takeE E s now) := fun x hx => by
  obtain ⟨y, hy, rfl⟩ := List.mem_map.1 hx
  rw [(Rt.upd_key s now y).2]
  exact h y hy
theorem Ex.Own.take {E : Rt.Tb} (h : Rt.Own E) (s now : Int) : Rt.Own (Rt.takeE E s now) := fun x hx => by
  obtain ⟨y, hy, rfl⟩ := List.mem_map.1 hx
  rw [(Rt.upd_key s now y).1, (Rt.upd_key s now y).2, (Ex.upd_ab s now y).1, (Ex.upd_ab s now y).2]
  exact h y hy
theorem Ex.Sen.none {E : Rt.Tb} (h : Ex.Sen E) (now : Int) : Rt.takeL E 16 now = [] ∧ Rt.takeE E 16 now = E := by
  constructor
  · unfold Rt.takeL
    rw [List.filter_eq_nil_iff.2]
    · rfl
    · intro x hx hh
      unfold Rt.hit at hh
      rw [Bool.and_eq_true, decide_eq_true_eq] at hh
      have := h x hx
      omega
  · unfold Rt.takeE
    conv => rhs; rw [← List.map_id E]
    apply List.map_congr_left
    intro x hx
    have := h x hx
    unfold Rt.upd
    rw [if_neg (by omega)]
    rfl
theorem Ex.rows_keep {α : Type} {d : Kd α} {e : Nat} {w0 W W1 : World} {base g : Nat} {F : Rt.Tb} {ok : Nat → Prop} {v : Value} {xs : List α} (h : Kd.R d e W base ok v xs) (hI : IsS65 w0 W g F) (hk : KeepBut W W1 g none) (h1 : ∀ q, q ∈ e :: d.E → q ≠ 65 ∧ q ≠ 77) : Kd.R d e W1 base ok v xs := by
  obtain ⟨cs, hg⟩ := hI.blk
  exact Kd.R_mono (Kd.R_move (Kd.R_bound h) (fun k ⟨_, _, hlt, q, hq, cells, hc⟩ => hk.2 k hlt (Ex.tyne hc hg (h1 q hq).1) (by simp) (fun c2 r2 e => by
    rw [hc] at e
    injection e with e
    injection e with _ e _
    exact (h1 q hq).2 e))) (fun _ hk => hk.1)
/-- The page's list is set to nil. -/
theorem Ex.clearR {w0 W : World} {g g2 : Nat} {E F : Rt.Tb} (hR : Ex.IsR w0 W g2 E) (hI : IsS65 w0 W g F) (hB : Below w0.heap.size w0 W) : (∃ v, W.cell? ⟨g2, 0, none⟩ = some v) ∧ W.frozen? ⟨g2, 0, none⟩ = false ∧ Ex.IsR w0 (W.setCell ⟨g2, 0, none⟩ (.slice none 0 0)) g2 [] ∧ IsS65 w0 (W.setCell ⟨g2, 0, none⟩ (.slice none 0 0)) g F ∧ Below w0.heap.size w0 (W.setCell ⟨g2, 0, none⟩ (.slice none 0 0)) := by
  obtain ⟨ds, hg⟩ := hI.blk
  obtain ⟨h1, v, hT⟩ := hR
  have hb := hT.1
  refine ⟨⟨v, (blk_cell hb 0).trans (by rfl)⟩, by simp [World.frozen?, hb], ⟨h1, .slice none 0 0, ?_, Kd.R_nil _ _ _ _ _⟩, IsS65.far hI (show g ≠ g2 from (Ex.tyne hg hb (by decide))) _ (no77_of hb (by decide)), below_set hB h1⟩
  simp [World.setCell, Array.getElem?_modify, hb]
theorem Ex.bkd {W : World} {k : Nat} {o : Option Obj} (h : W.heap[k]? = o) (m : Nat) : (W.drewN m).heap[k]? = o := h
theorem Ex.rbox {base : Nat} {w0 W W1 : World} {g k : Nat} {cs : Array Value} {E : Rt.Tb} (hk : Rt.RMov base W W1 g) (hR : Ex.IsR w0 W g E) (hb : W.heap[k]? = some (.cells cs 31 (0, 0))) : W1.heap[k]? = some (.cells cs 31 (0, 0)) := by
  obtain ⟨ds, hg⟩ := hR.blk
  exact Ex.rblk hk hg hb (by decide) (by decide)
theorem Ex.bbox {W W1 : World} {k : Nat} {o : Obj} (hb : Below W.heap.size W W1) (h : W.heap[k]? = some o) : W1.heap[k]? = some o := (hb.block k (blk_lt h)).trans h
theorem Ex.srt {w0 W : World} {g : Nat} {E : Rt.Tb} (h : IsS65 w0 W g E) : Rt.Srt E := by
  obtain ⟨_, h2, _⟩ := h
  exact h2
def gimballaw27_RateExact.f (_k : Nat) (_l0 : List (S31)) : Option (Bool) := some true
theorem gimballaw27_RateExact.mono : ∀ a0 k, LeO (gimballaw27_RateExact.f k a0) (gimballaw27_RateExact.f (k + 1) a0) := fun _ _ => LeO.refl _
set_option maxHeartbeats 32000000 in
set_option maxRecDepth 100000 in
theorem gimballaw27_RateExact.calls (k : Nat) (A0 : Option Addr) (c0 : Nat) (l0 : List (S31)) (r : Bool) (w : World) (hr0 : Kd.C k31 w A0 l0.length l0) (hc0 : l0.length ≤ c0) (h : gimballaw27_RateExact.f k l0 = some r) (hrt_ : Aside0 (r = true)) :
    Calls Try.prog 5 #[.slice A0 l0.length c0] w fun e w' => e = .returned (.bool r) ∧ Below w.heap.size w w' := by
  obtain rfl := hrt_.out
  clear h hrt_
  have HR0 := Aside0.mk hr0
  clear hr0
  obtain ⟨n, hn⟩ : ∃ n, n = l0.length := ⟨_, rfl⟩
  have HN := Aside0.mk hn
  rw [← hn]
  clear hn hc0
  go_enter Try.func5, Try.ntmps5
  go_wp2_with (go_at_call 6; refine (rate_New.calls [] w _ (Below.refl _ _) rfl).mono ?_; rintro e w2 ⟨g, rfl, hi, hb, hb2⟩; have HI := Aside0.mk hi; have HB := Aside0.mk hb; clear hi hb hb2)
  refine Cu.wp_loop (Cu.rep 5 Cu.f (Cu.rep 12 Cu.t (Cu.rep 5 Cu.f (Cu.rep 151 Cu.t (Cu.rep 1 Cu.f []))))) 163 (fun kq us_ w' => ∃ (E : Rt.Tb) (i : Nat), (Cu.nth us_ 0) = .int .i64 (i : Int) ∧ Aside0 (kq + i = 60) ∧ Aside0 (Rt.Own E) ∧ Aside0 (Ex.Sen E) ∧ Aside0 (E.length ≤ i) ∧ Aside0 (IsS65 w w' g E) ∧ Aside0 (Ex.IsR w w' w2.heap.size E) ∧ Aside0 (Below w.heap.size w w')) 60 ?_ (by kernel_rfl) (by kernel_rfl) ?_
  · try dsimp only [Cu.pick, Cu.rep, Cu.nth]
    exact ⟨[], 0, rfl, ⟨rfl⟩, ⟨Rt.Own.nil⟩, ⟨fun _ h => by cases h⟩, ⟨Nat.le_refl _⟩, ⟨HI.out.alloc _⟩, ⟨HB.out.size, _, blk_new w2 _, Kd.R_nil _ _ _ _ _⟩, ⟨below_alloc HB.out _⟩⟩
  obtain ⟨g2, hg2⟩ : ∃ g2, g2 = w2.heap.size := ⟨_, rfl⟩
  rw [← hg2]
  clear HI HB hg2
  intro gk wr u5 u6 u7 u8 u9 u10 u11 u12 u13 u14 u15 u16 u22 u23 u24 u25 u26 u27 u28 u29 u30 u31 u32 u33 u34 u35 u36 u37 u38 u39 u40 u41 u42 u43 u44 u45 u46 u47 u48 u49 u50 u51 u52 u53 u54 u55 u56 u57 u58 u59 u60 u61 u62 u63 u64 u65 u66 u67 u68 u69 u70 u71 u72 u73 u74 u75 u76 u77 u78 u79 u80 u81 u82 u83 u84 u85 u86 u87 u88 u89 u90 u91 u92 u93 u94 u95 u96 u97 u98 u99 u100 u101 u102 u103 u104 u105 u106 u107 u108 u109 u110 u111 u112 u113 u114 u115 u116 u117 u118 u119 u120 u121 u122 u123 u124 u125 u126 u127 u128 u129 u130 u131 u132 u133 u134 u135 u136 u137 u138 u139 u140 u141 u142 u143 u144 u145 u146 u147 u148 u149 u150 u151 u152 u153 u154 u155 u156 u157 u158 u159 u160 u161 u162 u163 u164 u165 u166 u167 u168 u169 u170 u171 u172
  try dsimp only [Cu.over, Cu.rep, Cu.nth]
  intro hrel _ _ _ _
  obtain ⟨E, i, rfl, HK, HOW, HSN, HE, HI, HR, HB⟩ := hrel
  by_cases hi : i < n
  · by_cases h60 : i < 60
    · obtain ⟨ad, e0, hx0, hx1, hx2, hx3, hx4, hx5⟩ := at_T31 HR0.out (i : Int) (by omega) (by have := HN.out; omega)
      subst e0
      replace hx0 := (HB.out.cell (World.block_lt_of_cell? w _ hx0)).trans hx0
      replace hx1 := (HB.out.cell (World.block_lt_of_cell? w _ hx1)).trans hx1
      replace hx2 := (HB.out.cell (World.block_lt_of_cell? w _ hx2)).trans hx2
      replace hx3 := (HB.out.cell (World.block_lt_of_cell? w _ hx3)).trans hx3
      replace hx4 := (HB.out.cell (World.block_lt_of_cell? w _ hx4)).trans hx4
      replace hx5 := (HB.out.cell (World.block_lt_of_cell? w _ hx5)).trans hx5
      rw [Int.toNat_natCast] at hx0 hx1 hx2 hx3 hx4 hx5
      generalize (rd_T31 l0 (i : Int)).f0 = xd at hx0
      generalize (rd_T31 l0 (i : Int)).f1.f0 = xa at hx1
      generalize (rd_T31 l0 (i : Int)).f1.f1 = xb at hx2
      generalize (rd_T31 l0 (i : Int)).f1.f2 = xp at hx3
      generalize (rd_T31 l0 (i : Int)).f1.f3 = xq at hx4
      generalize (rd_T31 l0 (i : Int)).f2 = xn at hx5
      obtain ⟨m, hm9, hwm⟩ := Ex.within xd 9 (by decide) (by decide)
      have HWM : Aside0 (∀ W, Calls Try.prog 7 #[.int .i64 xd, .int .i64 9] W _) := ⟨hwm⟩
      have hii : (i : Int) < (n : Int) := by omega
      have hi6 : (i : Int) < 60 := by omega
      have HL : Aside0 (E.length < 1000000) := ⟨by have := HE.out; omega⟩
      clear hwm hi h60
      go_upto_region 9 with (fail)
      obtain ⟨bx, hbx⟩ : ∃ bx, bx = wr.heap.size := ⟨_, rfl⟩
      obtain ⟨w1, hw1⟩ : ∃ w1, w1 = wr.alloc (.cells #[.int .i64 xd, .int .i64 xa, .int .i64 xb, .int .i64 xp, .int .i64 xq, .int .i64 xn] 31) := ⟨_, rfl⟩
      have hbk : w1.heap[bx]? = some (.cells #[.int .i64 xd, .int .i64 xa, .int .i64 xb, .int .i64 xp, .int .i64 xq, .int .i64 xn] 31 (0, 0)) := by rw [hw1, hbx]; exact blk_new wr _
      rw [← hw1, ← hbx]
      have hba : Below wr.heap.size wr w1 := hw1 ▸ below_alloc (Below.refl _ _) _
      replace HI := Aside0.mk (HI.out.below hba)
      replace HR := Aside0.mk (HR.out.below hba)
      replace HB := Aside0.mk (below_step HB.out hba)
      obtain ⟨dsg, hgg⟩ := HI.out.blk
      have hbxg : bx ≠ g := Ex.tyne hbk hgg (by decide)
      obtain ⟨z0, z1, z2, z3, z4, z5⟩ := Ex.c6 hbk
      clear hx0 hx1 hx2 hx3 hx4 hx5 hba hgg hw1 hbx
      have HM9 := Aside0.mk hm9
      have HBX := Aside0.mk hbxg
      have BK := Aside0.mk hbk
      clear hm9 hbxg hbk
      by_cases hm4 : m = 4
      · subst hm4
        have hcl : rate_Table_Clear.f E = some [] := rfl
        have HCL := Aside0.mk hcl
        clear hcl
        go_upto_region 46 with (first | (go_at_call 7; with_reducible refine (HWM.out _).mono ?_; rintro e w3 ⟨rfl, nd, rfl⟩)| (go_at_call 17; with_reducible refine (rate_Table_Clear.calls g E _ w _ ?sI ?sB HCL.out).mono ?_; (case sI => first | exact HI.out | exact HI.out.drewN _); (case sB => first | exact HB.out | exact pw_below_drewN HB.out _); rintro e w5 ⟨rfl, hi5, hb5, hk5⟩; have HR5 : Aside0 (Ex.IsR w w5 g2 E) := ⟨by first | exact Ex.IsR.keep HR.out HI.out hk5 | exact Ex.IsR.keep (HR.out.drewN _) (HI.out.drewN _) hk5⟩; obtain ⟨⟨v5, hc5⟩, hf5, hr6, hi6, hb6⟩ := Ex.clearR HR5.out hi5 hb5; have HR6 := Aside0.mk hr6; have HI6 := Aside0.mk hi6; have HB6 := Aside0.mk hb6; clear hr6 hi6 hb6; have HI5 := Aside0.mk hi5; have HB5 := Aside0.mk hb5; clear hi5 hb5 hk5))
        obtain ⟨F, hF⟩ : ∃ F : Rt.Tb, F = [] := ⟨_, rfl⟩
        have hfd : Rt.Own F ∧ Ex.Sen F ∧ F.length ≤ i + 1 := by rw [hF]; exact ⟨Rt.Own.nil, (fun _ h => by cases h), Nat.zero_le _⟩
        have HI8 := HI6; rw [← hF] at HI8
        have HR8 := HR6; rw [← hF] at HR8
        obtain ⟨lF, hlF⟩ : ∃ l, l = F.map (fun x => (⟨x.a, x.b, x.p, x.q⟩ : S29)) := ⟨_, rfl⟩
        have hll : lF.length < 1000000 := by rw [hlF, List.length_map]; have := hfd.2.2; omega
        obtain ⟨ke, hke⟩ := Ex.eqs_f lF hll
        have hall : rate_Table_All.f F = some (lF, F) := by rw [hlF]; exact if_pos (by have := hfd.2.2; omega)
        have hlt : F.length < 1000000 := by have := hfd.2.2; omega
        have HFD := Aside0.mk hfd
        have HLF := Aside0.mk hlF
        have HKE := Aside0.mk hke
        have HALL := Aside0.mk hall
        have HLT := Aside0.mk hlt
        clear hfd hlF hke hall hlt hll hF
        go_wp2_with (first | (go_at_call 16; with_reducible refine (rate_Table_All.calls g F lF F w _ ?sI ?sB HALL.out).mono ?_; (case sI => first | exact HI8.out | exact HI8.out.drewN _); (case sB => first | exact HB6.out | exact pw_below_drewN HB6.out _); rintro e w9 ⟨vA, rfl, hoA, hi9, hb9, hk9⟩; obtain ⟨AA, cA, rfl⟩ := Kd.R_slice hoA; have HR9 : Aside0 (Ex.IsR w w9 g2 F) := ⟨by first | exact Ex.IsR.keep HR8.out HI8.out hk9 | exact Ex.IsR.keep (HR8.out.drewN _) (HI8.out.drewN _) hk9⟩; have HOA := Aside0.mk hoA; clear hoA; have HI9 := Aside0.mk hi9; have HB9 := Aside0.mk hb9; clear hi9 hb9 hk9)| (go_at_call 27; with_reducible refine (Ex.all (w0 := w) (E := F) ?sR ?sB HLT.out).mono ?_; (case sR => first | exact HR9.out | exact HR9.out.drewN _); (case sB => first | exact HB9.out | exact pw_below_drewN HB9.out _); rintro e w10 ⟨vB, rfl, hoB, hbB⟩; rw [← HLF.out] at hoB; obtain ⟨AB, cB, rfl⟩ := Kd.R_slice hoB; have HI10 : Aside0 (IsS65 w w10 g F) := ⟨by first | exact HI9.out.below hbB | exact (HI9.out.drewN _).below hbB⟩; have HR10 : Aside0 (Ex.IsR w w10 g2 F) := ⟨by first | exact HR9.out.below hbB | exact (HR9.out.drewN _).below hbB⟩; have HB10 : Aside0 (Below w.heap.size w w10) := ⟨by first | exact below_step HB9.out hbB | exact below_step (pw_below_drewN HB9.out _) hbB⟩; have HCA : Aside0 (Kd.C k29 w10 AA lF.length lF ∧ lF.length ≤ cA) := ⟨by first | exact ⟨(Kd.R_reads' (Kd.R_below HOA.out hbB)).2.2, (Kd.R_reads' HOA.out).2.1⟩ | exact ⟨(Kd.R_reads' (Kd.R_below (Kd.R_drewN HOA.out _) hbB)).2.2, (Kd.R_reads' HOA.out).2.1⟩⟩; have HCB := Aside0.mk hoB; clear hoB hbB HOA)| (go_at_call 26; refine (gimbalref0_EqSubs.calls ke AA cA lF AB cB lF true _ ?q1 ?q2 ?q3 ?q4 HKE.out).mono ?_; (case q1 => exact HCA.out.1); (case q2 => exact HCA.out.2); (case q3 => exact (Kd.R_reads' HCB.out).2.2); (case q4 => exact (Kd.R_reads' HCB.out).2.1); rintro e w11 ⟨rfl, ne, rfl⟩))
        refine Cu.handed (60 - (i + 1)) (by have := HK.out; omega) (by assumption) ?_ (by kernel_rfl) (by kernel_rfl)
        try dsimp only [Cu.pick, Cu.rep, Cu.nth]
        exact ⟨F, i + 1, by rw [Int.natCast_add]; rfl, ⟨by omega⟩, ⟨HFD.out.1⟩, ⟨HFD.out.2.1⟩, ⟨HFD.out.2.2⟩, ⟨HI10.out.drewN _⟩, ⟨HR10.out.drewN _⟩, ⟨pw_below_drewN HB10.out _⟩⟩
      · by_cases hm3 : m = 3
        · subst hm3
          cases hh : Rt.Tb.has E xa xb with
          | true =>
            have hd : rate_Table_Drop.f E xa xb = some (0, Rt.Tb.rem E xa xb) := by unfold rate_Table_Drop.f; rw [if_pos HL.out, hh]; rfl
            have HD := Aside0.mk hd
            have HH := Aside0.mk hh
            clear hd hh
            go_upto_region 46 with (first | (go_at_call 7; with_reducible refine (HWM.out _).mono ?_; rintro e w3 ⟨rfl, nd, rfl⟩)| (go_at_call 18; with_reducible refine (Ex.drop (w0 := w) (E := E) ?sR ?sB xa xb HOW.out HL.out).mono ?_; (case sR => first | exact HR.out | exact HR.out.drewN _); (case sB => first | exact HB.out | exact pw_below_drewN HB.out _); rintro e w4 ⟨he4, hr4, hb4, hm4⟩; rw [HH.out] at he4; subst he4; have HI4 : Aside0 (IsS65 w w4 g E) := ⟨by first | exact Ex.IsS.rmov HI.out HR.out hm4 | exact Ex.IsS.rmov (HI.out.drewN _) (HR.out.drewN _) hm4⟩; have BK4 : Aside0 (w4.heap[bx]? = some (.cells #[.int .i64 xd, .int .i64 xa, .int .i64 xb, .int .i64 xp, .int .i64 xq, .int .i64 xn] 31 (0, 0))) := ⟨by first | exact Ex.rbox hm4 HR.out BK.out | exact Ex.rbox hm4 (HR.out.drewN _) (Ex.bkd BK.out _)⟩; obtain ⟨z0, z1, z2, z3, z4, z5⟩ := Ex.c6 BK4.out; have HR4 := Aside0.mk hr4; have HB4 := Aside0.mk hb4; clear hr4 hb4 hm4)| (go_at_call 10; with_reducible refine (rate_Table_Drop.calls g E xa xb _ _ w _ ?sI ?sB HD.out).mono ?_; (case sI => first | exact HI4.out | exact HI4.out.drewN _); (case sB => first | exact HB4.out | exact pw_below_drewN HB4.out _); rintro e w5 ⟨rfl, hi5, hb5, hk5⟩; have HR5 : Aside0 (Ex.IsR w w5 g2 (Rt.Tb.rem E xa xb)) := ⟨by first | exact Ex.IsR.keep HR4.out HI4.out hk5 | exact Ex.IsR.keep (HR4.out.drewN _) (HI4.out.drewN _) hk5⟩; have HI5 := Aside0.mk hi5; have HB5 := Aside0.mk hb5; clear hi5 hb5 hk5)| (go_at_call 8; with_reducible refine (gimballaw27_num.calls _ _ _ rfl).mono ?_; rintro e w6 ⟨rfl, nn, rfl⟩))
            replace HI5 := Aside0.mk (HI5.out.drewN nn)
            replace HR5 := Aside0.mk (HR5.out.drewN nn)
            replace HB5 := Aside0.mk (pw_below_drewN HB5.out nn)
            obtain ⟨F, hF⟩ : ∃ F : Rt.Tb, F = Rt.Tb.rem E xa xb := ⟨_, rfl⟩
            have hfd : Rt.Own F ∧ Ex.Sen F ∧ F.length ≤ i + 1 := by rw [hF]; exact ⟨HOW.out.rem xa xb, HSN.out.rem xa xb, Nat.le_trans (Rt.rem_sub E xa xb).length_le (Nat.le_succ_of_le HE.out)⟩
            have HI8 := HI5; rw [← hF] at HI8
            have HR8 := HR5; rw [← hF] at HR8
            obtain ⟨lF, hlF⟩ : ∃ l, l = F.map (fun x => (⟨x.a, x.b, x.p, x.q⟩ : S29)) := ⟨_, rfl⟩
            have hll : lF.length < 1000000 := by rw [hlF, List.length_map]; have := hfd.2.2; omega
            obtain ⟨ke, hke⟩ := Ex.eqs_f lF hll
            have hall : rate_Table_All.f F = some (lF, F) := by rw [hlF]; exact if_pos (by have := hfd.2.2; omega)
            have hlt : F.length < 1000000 := by have := hfd.2.2; omega
            have HFD := Aside0.mk hfd
            have HLF := Aside0.mk hlF
            have HKE := Aside0.mk hke
            have HALL := Aside0.mk hall
            have HLT := Aside0.mk hlt
            clear hfd hlF hke hall hlt hll hF
            go_wp2_with (first | (go_at_call 16; with_reducible refine (rate_Table_All.calls g F lF F w _ ?sI ?sB HALL.out).mono ?_; (case sI => first | exact HI8.out | exact HI8.out.drewN _); (case sB => first | exact HB5.out | exact pw_below_drewN HB5.out _); rintro e w9 ⟨vA, rfl, hoA, hi9, hb9, hk9⟩; obtain ⟨AA, cA, rfl⟩ := Kd.R_slice hoA; have HR9 : Aside0 (Ex.IsR w w9 g2 F) := ⟨by first | exact Ex.IsR.keep HR8.out HI8.out hk9 | exact Ex.IsR.keep (HR8.out.drewN _) (HI8.out.drewN _) hk9⟩; have HOA := Aside0.mk hoA; clear hoA; have HI9 := Aside0.mk hi9; have HB9 := Aside0.mk hb9; clear hi9 hb9 hk9)| (go_at_call 27; with_reducible refine (Ex.all (w0 := w) (E := F) ?sR ?sB HLT.out).mono ?_; (case sR => first | exact HR9.out | exact HR9.out.drewN _); (case sB => first | exact HB9.out | exact pw_below_drewN HB9.out _); rintro e w10 ⟨vB, rfl, hoB, hbB⟩; rw [← HLF.out] at hoB; obtain ⟨AB, cB, rfl⟩ := Kd.R_slice hoB; have HI10 : Aside0 (IsS65 w w10 g F) := ⟨by first | exact HI9.out.below hbB | exact (HI9.out.drewN _).below hbB⟩; have HR10 : Aside0 (Ex.IsR w w10 g2 F) := ⟨by first | exact HR9.out.below hbB | exact (HR9.out.drewN _).below hbB⟩; have HB10 : Aside0 (Below w.heap.size w w10) := ⟨by first | exact below_step HB9.out hbB | exact below_step (pw_below_drewN HB9.out _) hbB⟩; have HCA : Aside0 (Kd.C k29 w10 AA lF.length lF ∧ lF.length ≤ cA) := ⟨by first | exact ⟨(Kd.R_reads' (Kd.R_below HOA.out hbB)).2.2, (Kd.R_reads' HOA.out).2.1⟩ | exact ⟨(Kd.R_reads' (Kd.R_below (Kd.R_drewN HOA.out _) hbB)).2.2, (Kd.R_reads' HOA.out).2.1⟩⟩; have HCB := Aside0.mk hoB; clear hoB hbB HOA)| (go_at_call 26; refine (gimbalref0_EqSubs.calls ke AA cA lF AB cB lF true _ ?q1 ?q2 ?q3 ?q4 HKE.out).mono ?_; (case q1 => exact HCA.out.1); (case q2 => exact HCA.out.2); (case q3 => exact (Kd.R_reads' HCB.out).2.2); (case q4 => exact (Kd.R_reads' HCB.out).2.1); rintro e w11 ⟨rfl, ne, rfl⟩))
            refine Cu.handed (60 - (i + 1)) (by have := HK.out; omega) (by assumption) ?_ (by kernel_rfl) (by kernel_rfl)
            try dsimp only [Cu.pick, Cu.rep, Cu.nth]
            exact ⟨F, i + 1, by rw [Int.natCast_add]; rfl, ⟨by omega⟩, ⟨HFD.out.1⟩, ⟨HFD.out.2.1⟩, ⟨HFD.out.2.2⟩, ⟨HI10.out.drewN _⟩, ⟨HR10.out.drewN _⟩, ⟨pw_below_drewN HB10.out _⟩⟩
          | false =>
            have hd : rate_Table_Drop.f E xa xb = some (5, Rt.Tb.rem E xa xb) := by unfold rate_Table_Drop.f; rw [if_pos HL.out, hh]; rfl
            have HD := Aside0.mk hd
            have HH := Aside0.mk hh
            clear hd hh
            go_upto_region 46 with (first | (go_at_call 7; with_reducible refine (HWM.out _).mono ?_; rintro e w3 ⟨rfl, nd, rfl⟩)| (go_at_call 18; with_reducible refine (Ex.drop (w0 := w) (E := E) ?sR ?sB xa xb HOW.out HL.out).mono ?_; (case sR => first | exact HR.out | exact HR.out.drewN _); (case sB => first | exact HB.out | exact pw_below_drewN HB.out _); rintro e w4 ⟨he4, hr4, hb4, hm4⟩; rw [HH.out] at he4; subst he4; have HI4 : Aside0 (IsS65 w w4 g E) := ⟨by first | exact Ex.IsS.rmov HI.out HR.out hm4 | exact Ex.IsS.rmov (HI.out.drewN _) (HR.out.drewN _) hm4⟩; have BK4 : Aside0 (w4.heap[bx]? = some (.cells #[.int .i64 xd, .int .i64 xa, .int .i64 xb, .int .i64 xp, .int .i64 xq, .int .i64 xn] 31 (0, 0))) := ⟨by first | exact Ex.rbox hm4 HR.out BK.out | exact Ex.rbox hm4 (HR.out.drewN _) (Ex.bkd BK.out _)⟩; obtain ⟨z0, z1, z2, z3, z4, z5⟩ := Ex.c6 BK4.out; have HR4 := Aside0.mk hr4; have HB4 := Aside0.mk hb4; clear hr4 hb4 hm4)| (go_at_call 10; with_reducible refine (rate_Table_Drop.calls g E xa xb _ _ w _ ?sI ?sB HD.out).mono ?_; (case sI => first | exact HI4.out | exact HI4.out.drewN _); (case sB => first | exact HB4.out | exact pw_below_drewN HB4.out _); rintro e w5 ⟨rfl, hi5, hb5, hk5⟩; have HR5 : Aside0 (Ex.IsR w w5 g2 (Rt.Tb.rem E xa xb)) := ⟨by first | exact Ex.IsR.keep HR4.out HI4.out hk5 | exact Ex.IsR.keep (HR4.out.drewN _) (HI4.out.drewN _) hk5⟩; have HI5 := Aside0.mk hi5; have HB5 := Aside0.mk hb5; clear hi5 hb5 hk5)| (go_at_call 8; with_reducible refine (gimballaw27_num.calls _ _ _ rfl).mono ?_; rintro e w6 ⟨rfl, nn, rfl⟩))
            replace HI5 := Aside0.mk (HI5.out.drewN nn)
            replace HR5 := Aside0.mk (HR5.out.drewN nn)
            replace HB5 := Aside0.mk (pw_below_drewN HB5.out nn)
            obtain ⟨F, hF⟩ : ∃ F : Rt.Tb, F = Rt.Tb.rem E xa xb := ⟨_, rfl⟩
            have hfd : Rt.Own F ∧ Ex.Sen F ∧ F.length ≤ i + 1 := by rw [hF]; exact ⟨HOW.out.rem xa xb, HSN.out.rem xa xb, Nat.le_trans (Rt.rem_sub E xa xb).length_le (Nat.le_succ_of_le HE.out)⟩
            have HI8 := HI5; rw [← hF] at HI8
            have HR8 := HR5; rw [← hF] at HR8
            obtain ⟨lF, hlF⟩ : ∃ l, l = F.map (fun x => (⟨x.a, x.b, x.p, x.q⟩ : S29)) := ⟨_, rfl⟩
            have hll : lF.length < 1000000 := by rw [hlF, List.length_map]; have := hfd.2.2; omega
            obtain ⟨ke, hke⟩ := Ex.eqs_f lF hll
            have hall : rate_Table_All.f F = some (lF, F) := by rw [hlF]; exact if_pos (by have := hfd.2.2; omega)
            have hlt : F.length < 1000000 := by have := hfd.2.2; omega
            have HFD := Aside0.mk hfd
            have HLF := Aside0.mk hlF
            have HKE := Aside0.mk hke
            have HALL := Aside0.mk hall
            have HLT := Aside0.mk hlt
            clear hfd hlF hke hall hlt hll hF
            go_wp2_with (first | (go_at_call 16; with_reducible refine (rate_Table_All.calls g F lF F w _ ?sI ?sB HALL.out).mono ?_; (case sI => first | exact HI8.out | exact HI8.out.drewN _); (case sB => first | exact HB5.out | exact pw_below_drewN HB5.out _); rintro e w9 ⟨vA, rfl, hoA, hi9, hb9, hk9⟩; obtain ⟨AA, cA, rfl⟩ := Kd.R_slice hoA; have HR9 : Aside0 (Ex.IsR w w9 g2 F) := ⟨by first | exact Ex.IsR.keep HR8.out HI8.out hk9 | exact Ex.IsR.keep (HR8.out.drewN _) (HI8.out.drewN _) hk9⟩; have HOA := Aside0.mk hoA; clear hoA; have HI9 := Aside0.mk hi9; have HB9 := Aside0.mk hb9; clear hi9 hb9 hk9)| (go_at_call 27; with_reducible refine (Ex.all (w0 := w) (E := F) ?sR ?sB HLT.out).mono ?_; (case sR => first | exact HR9.out | exact HR9.out.drewN _); (case sB => first | exact HB9.out | exact pw_below_drewN HB9.out _); rintro e w10 ⟨vB, rfl, hoB, hbB⟩; rw [← HLF.out] at hoB; obtain ⟨AB, cB, rfl⟩ := Kd.R_slice hoB; have HI10 : Aside0 (IsS65 w w10 g F) := ⟨by first | exact HI9.out.below hbB | exact (HI9.out.drewN _).below hbB⟩; have HR10 : Aside0 (Ex.IsR w w10 g2 F) := ⟨by first | exact HR9.out.below hbB | exact (HR9.out.drewN _).below hbB⟩; have HB10 : Aside0 (Below w.heap.size w w10) := ⟨by first | exact below_step HB9.out hbB | exact below_step (pw_below_drewN HB9.out _) hbB⟩; have HCA : Aside0 (Kd.C k29 w10 AA lF.length lF ∧ lF.length ≤ cA) := ⟨by first | exact ⟨(Kd.R_reads' (Kd.R_below HOA.out hbB)).2.2, (Kd.R_reads' HOA.out).2.1⟩ | exact ⟨(Kd.R_reads' (Kd.R_below (Kd.R_drewN HOA.out _) hbB)).2.2, (Kd.R_reads' HOA.out).2.1⟩⟩; have HCB := Aside0.mk hoB; clear hoB hbB HOA)| (go_at_call 26; refine (gimbalref0_EqSubs.calls ke AA cA lF AB cB lF true _ ?q1 ?q2 ?q3 ?q4 HKE.out).mono ?_; (case q1 => exact HCA.out.1); (case q2 => exact HCA.out.2); (case q3 => exact (Kd.R_reads' HCB.out).2.2); (case q4 => exact (Kd.R_reads' HCB.out).2.1); rintro e w11 ⟨rfl, ne, rfl⟩))
            refine Cu.handed (60 - (i + 1)) (by have := HK.out; omega) (by assumption) ?_ (by kernel_rfl) (by kernel_rfl)
            try dsimp only [Cu.pick, Cu.rep, Cu.nth]
            exact ⟨F, i + 1, by rw [Int.natCast_add]; rfl, ⟨by omega⟩, ⟨HFD.out.1⟩, ⟨HFD.out.2.1⟩, ⟨HFD.out.2.2⟩, ⟨HI10.out.drewN _⟩, ⟨HR10.out.drewN _⟩, ⟨pw_below_drewN HB10.out _⟩⟩
        · by_cases hm8 : m = 8
          · subst hm8
            by_cases p1 : 1 ≤ xb
            · by_cases p2 : xb ≤ 5
              · obtain ⟨l, hl⟩ : ∃ l, l = Rt.needL E xb := ⟨_, rfl⟩
                have hln : l.length < 1000000 := by rw [hl]; have := Rt.needL_len E xb; have := HL.out; omega
                obtain ⟨kn, hkn⟩ := Ex.eqn_f l hln
                have hnd : rate_Table_Needing.f E xb = some (l, 0, E) := by unfold rate_Table_Needing.f; rw [if_pos HL.out, if_pos (by simp [p1, p2]), hl]
                have HND := Aside0.mk hnd
                have HKN := Aside0.mk hkn
                have HLL := Aside0.mk hl
                clear hnd hkn hl hln
                go_upto_region 46 with (first | (go_at_call 7; with_reducible refine (HWM.out _).mono ?_; rintro e w3 ⟨rfl, nd, rfl⟩)| (go_at_call 23; with_reducible refine (Ex.needing (w0 := w) (E := E) ?sR ?sB xb ⟨p1, p2⟩ HOW.out HL.out).mono ?_; (case sR => first | exact HR.out | exact HR.out.drewN _); (case sB => first | exact HB.out | exact pw_below_drewN HB.out _); rintro e w4 ⟨vW, rfl, hoW, hbW⟩; rw [← HLL.out] at hoW; obtain ⟨AW, cW, rfl⟩ := Kd.R_slice hoW; have HI4 : Aside0 (IsS65 w w4 g E) := ⟨by first | exact HI.out.below hbW | exact (HI.out.drewN _).below hbW⟩; have HR4 : Aside0 (Ex.IsR w w4 g2 E) := ⟨by first | exact HR.out.below hbW | exact (HR.out.drewN _).below hbW⟩; have HB4 : Aside0 (Below w.heap.size w w4) := ⟨by first | exact below_step HB.out hbW | exact below_step (pw_below_drewN HB.out _) hbW⟩; have BK4 : Aside0 (w4.heap[bx]? = some (.cells #[.int .i64 xd, .int .i64 xa, .int .i64 xb, .int .i64 xp, .int .i64 xq, .int .i64 xn] 31 (0, 0))) := ⟨by first | exact Ex.bbox hbW BK.out | exact Ex.bbox hbW (Ex.bkd BK.out _)⟩; obtain ⟨z0, z1, z2, z3, z4, z5⟩ := Ex.c6 BK4.out; have HOW4 := Aside0.mk hoW; clear hoW hbW)| (go_at_call 24; with_reducible refine (rate_Table_Needing.calls g E xb l 0 E w _ ?sI ?sB HND.out).mono ?_; (case sI => first | exact HI4.out | exact HI4.out.drewN _); (case sB => first | exact HB4.out | exact pw_below_drewN HB4.out _); rintro e w5 ⟨vA, rfl, ho5, hi5, hb5, hk5⟩; obtain ⟨AA, cA, rfl⟩ := Kd.R_slice ho5; have HOW5 : Aside0 (Kd.R (Kd.int .i64) 3 w5 _ _ (.slice AW l.length cW) l) := ⟨by first | exact Ex.rows_keep HOW4.out HI4.out hk5 (by decide) | exact Ex.rows_keep (Kd.R_drewN HOW4.out _) (HI4.out.drewN _) hk5 (by decide)⟩; have HR5 : Aside0 (Ex.IsR w w5 g2 E) := ⟨by first | exact Ex.IsR.keep HR4.out HI4.out hk5 | exact Ex.IsR.keep (HR4.out.drewN _) (HI4.out.drewN _) hk5⟩; have HOA := Aside0.mk ho5; clear ho5; have HI5 := Aside0.mk hi5; have HB5 := Aside0.mk hb5; clear hi5 hb5 hk5)| (go_at_call 8; with_reducible refine (gimballaw27_num.calls _ _ _ rfl).mono ?_; rintro e w6 ⟨rfl, nn, rfl⟩)| (go_at_call 21; refine (gimbalref0_EqNumbers.calls kn AA cA l AW cW l true _ ?q1 ?q2 ?q3 ?q4 HKN.out).mono ?_; (case q1 => first | exact (Kd.R_reads' HOA.out).2.2 | exact (Kd.R_reads' (Kd.R_drewN HOA.out _)).2.2); (case q2 => exact (Kd.R_reads' HOA.out).2.1); (case q3 => first | exact (Kd.R_reads' HOW5.out).2.2 | exact (Kd.R_reads' (Kd.R_drewN HOW5.out _)).2.2); (case q4 => exact (Kd.R_reads' HOW5.out).2.1); rintro e w11 ⟨rfl, ne, rfl⟩))
                replace HI5 := Aside0.mk (HI5.out.drewN (nn + ne))
                replace HR5 := Aside0.mk (HR5.out.drewN (nn + ne))
                replace HB5 := Aside0.mk (pw_below_drewN HB5.out (nn + ne))
                obtain ⟨F, hF⟩ : ∃ F : Rt.Tb, F = E := ⟨_, rfl⟩
                have hfd : Rt.Own F ∧ Ex.Sen F ∧ F.length ≤ i + 1 := by rw [hF]; exact ⟨HOW.out, HSN.out, Nat.le_succ_of_le HE.out⟩
                have HI8 := HI5; rw [← hF] at HI8
                have HR8 := HR5; rw [← hF] at HR8
                obtain ⟨lF, hlF⟩ : ∃ l, l = F.map (fun x => (⟨x.a, x.b, x.p, x.q⟩ : S29)) := ⟨_, rfl⟩
                have hll : lF.length < 1000000 := by rw [hlF, List.length_map]; have := hfd.2.2; omega
                obtain ⟨ke, hke⟩ := Ex.eqs_f lF hll
                have hall : rate_Table_All.f F = some (lF, F) := by rw [hlF]; exact if_pos (by have := hfd.2.2; omega)
                have hlt : F.length < 1000000 := by have := hfd.2.2; omega
                have HFD := Aside0.mk hfd
                have HLF := Aside0.mk hlF
                have HKE := Aside0.mk hke
                have HALL := Aside0.mk hall
                have HLT := Aside0.mk hlt
                clear hfd hlF hke hall hlt hll hF
                go_wp2_with (first | (go_at_call 16; with_reducible refine (rate_Table_All.calls g F lF F w _ ?sI ?sB HALL.out).mono ?_; (case sI => first | exact HI8.out | exact HI8.out.drewN _); (case sB => first | exact HB5.out | exact pw_below_drewN HB5.out _); rintro e w9 ⟨vA, rfl, hoA, hi9, hb9, hk9⟩; obtain ⟨AA, cA, rfl⟩ := Kd.R_slice hoA; have HR9 : Aside0 (Ex.IsR w w9 g2 F) := ⟨by first | exact Ex.IsR.keep HR8.out HI8.out hk9 | exact Ex.IsR.keep (HR8.out.drewN _) (HI8.out.drewN _) hk9⟩; have HOA := Aside0.mk hoA; clear hoA; have HI9 := Aside0.mk hi9; have HB9 := Aside0.mk hb9; clear hi9 hb9 hk9)| (go_at_call 27; with_reducible refine (Ex.all (w0 := w) (E := F) ?sR ?sB HLT.out).mono ?_; (case sR => first | exact HR9.out | exact HR9.out.drewN _); (case sB => first | exact HB9.out | exact pw_below_drewN HB9.out _); rintro e w10 ⟨vB, rfl, hoB, hbB⟩; rw [← HLF.out] at hoB; obtain ⟨AB, cB, rfl⟩ := Kd.R_slice hoB; have HI10 : Aside0 (IsS65 w w10 g F) := ⟨by first | exact HI9.out.below hbB | exact (HI9.out.drewN _).below hbB⟩; have HR10 : Aside0 (Ex.IsR w w10 g2 F) := ⟨by first | exact HR9.out.below hbB | exact (HR9.out.drewN _).below hbB⟩; have HB10 : Aside0 (Below w.heap.size w w10) := ⟨by first | exact below_step HB9.out hbB | exact below_step (pw_below_drewN HB9.out _) hbB⟩; have HCA : Aside0 (Kd.C k29 w10 AA lF.length lF ∧ lF.length ≤ cA) := ⟨by first | exact ⟨(Kd.R_reads' (Kd.R_below HOA.out hbB)).2.2, (Kd.R_reads' HOA.out).2.1⟩ | exact ⟨(Kd.R_reads' (Kd.R_below (Kd.R_drewN HOA.out _) hbB)).2.2, (Kd.R_reads' HOA.out).2.1⟩⟩; have HCB := Aside0.mk hoB; clear hoB hbB HOA)| (go_at_call 26; refine (gimbalref0_EqSubs.calls ke AA cA lF AB cB lF true _ ?q1 ?q2 ?q3 ?q4 HKE.out).mono ?_; (case q1 => exact HCA.out.1); (case q2 => exact HCA.out.2); (case q3 => exact (Kd.R_reads' HCB.out).2.2); (case q4 => exact (Kd.R_reads' HCB.out).2.1); rintro e w11 ⟨rfl, ne, rfl⟩))
                refine Cu.handed (60 - (i + 1)) (by have := HK.out; omega) (by assumption) ?_ (by kernel_rfl) (by kernel_rfl)
                try dsimp only [Cu.pick, Cu.rep, Cu.nth]
                exact ⟨F, i + 1, by rw [Int.natCast_add]; rfl, ⟨by omega⟩, ⟨HFD.out.1⟩, ⟨HFD.out.2.1⟩, ⟨HFD.out.2.2⟩, ⟨HI10.out.drewN _⟩, ⟨HR10.out.drewN _⟩, ⟨pw_below_drewN HB10.out _⟩⟩
              · obtain ⟨l, hl⟩ : ∃ l, l = ([] : List Int) := ⟨_, rfl⟩
                obtain ⟨kn, hkn⟩ := Ex.eqn_f ([] : List Int) (by decide)
                have hkn : gimbalref0_EqNumbers.f kn l [] = some true := by rw [hl]; exact hkn
                have hnd : rate_Table_Needing.f E xb = some (l, 1, E) := by unfold rate_Table_Needing.f; rw [if_pos HL.out, if_neg (by simp [p1]; omega), hl]
                have HND := Aside0.mk hnd
                have HKN := Aside0.mk hkn
                clear hnd hkn hl
                go_upto_region 46 with (first | (go_at_call 7; with_reducible refine (HWM.out _).mono ?_; rintro e w3 ⟨rfl, nd, rfl⟩)| (go_at_call 24; with_reducible refine (rate_Table_Needing.calls g E xb l 1 E w _ ?sI ?sB HND.out).mono ?_; (case sI => first | exact HI.out | exact HI.out.drewN _); (case sB => first | exact HB.out | exact pw_below_drewN HB.out _); rintro e w5 ⟨vA, rfl, ho5, hi5, hb5, hk5⟩; obtain ⟨AA, cA, rfl⟩ := Kd.R_slice ho5; have HR5 : Aside0 (Ex.IsR w w5 g2 E) := ⟨by first | exact Ex.IsR.keep HR.out HI.out hk5 | exact Ex.IsR.keep (HR.out.drewN _) (HI.out.drewN _) hk5⟩; have HOA := Aside0.mk ho5; clear ho5; have HI5 := Aside0.mk hi5; have HB5 := Aside0.mk hb5; clear hi5 hb5 hk5)| (go_at_call 8; with_reducible refine (gimballaw27_num.calls _ _ _ rfl).mono ?_; rintro e w6 ⟨rfl, nn, rfl⟩)| (go_at_call 21; refine (gimbalref0_EqNumbers.calls kn AA cA l none 0 [] true _ ?q1 ?q2 ?q3 ?q4 HKN.out).mono ?_; (case q1 => first | exact (Kd.R_reads' HOA.out).2.2 | exact (Kd.R_reads' (Kd.R_drewN HOA.out _)).2.2); (case q2 => exact (Kd.R_reads' HOA.out).2.1); (case q3 => exact Kd.C_nil _ _); (case q4 => exact Nat.le_refl _); rintro e w11 ⟨rfl, ne, rfl⟩))
                replace HI5 := Aside0.mk (HI5.out.drewN (nn + ne))
                replace HR5 := Aside0.mk (HR5.out.drewN (nn + ne))
                replace HB5 := Aside0.mk (pw_below_drewN HB5.out (nn + ne))
                obtain ⟨F, hF⟩ : ∃ F : Rt.Tb, F = E := ⟨_, rfl⟩
                have hfd : Rt.Own F ∧ Ex.Sen F ∧ F.length ≤ i + 1 := by rw [hF]; exact ⟨HOW.out, HSN.out, Nat.le_succ_of_le HE.out⟩
                have HI8 := HI5; rw [← hF] at HI8
                have HR8 := HR5; rw [← hF] at HR8
                obtain ⟨lF, hlF⟩ : ∃ l, l = F.map (fun x => (⟨x.a, x.b, x.p, x.q⟩ : S29)) := ⟨_, rfl⟩
                have hll : lF.length < 1000000 := by rw [hlF, List.length_map]; have := hfd.2.2; omega
                obtain ⟨ke, hke⟩ := Ex.eqs_f lF hll
                have hall : rate_Table_All.f F = some (lF, F) := by rw [hlF]; exact if_pos (by have := hfd.2.2; omega)
                have hlt : F.length < 1000000 := by have := hfd.2.2; omega
                have HFD := Aside0.mk hfd
                have HLF := Aside0.mk hlF
                have HKE := Aside0.mk hke
                have HALL := Aside0.mk hall
                have HLT := Aside0.mk hlt
                clear hfd hlF hke hall hlt hll hF
                go_wp2_with (first | (go_at_call 16; with_reducible refine (rate_Table_All.calls g F lF F w _ ?sI ?sB HALL.out).mono ?_; (case sI => first | exact HI8.out | exact HI8.out.drewN _); (case sB => first | exact HB5.out | exact pw_below_drewN HB5.out _); rintro e w9 ⟨vA, rfl, hoA, hi9, hb9, hk9⟩; obtain ⟨AA, cA, rfl⟩ := Kd.R_slice hoA; have HR9 : Aside0 (Ex.IsR w w9 g2 F) := ⟨by first | exact Ex.IsR.keep HR8.out HI8.out hk9 | exact Ex.IsR.keep (HR8.out.drewN _) (HI8.out.drewN _) hk9⟩; have HOA := Aside0.mk hoA; clear hoA; have HI9 := Aside0.mk hi9; have HB9 := Aside0.mk hb9; clear hi9 hb9 hk9)| (go_at_call 27; with_reducible refine (Ex.all (w0 := w) (E := F) ?sR ?sB HLT.out).mono ?_; (case sR => first | exact HR9.out | exact HR9.out.drewN _); (case sB => first | exact HB9.out | exact pw_below_drewN HB9.out _); rintro e w10 ⟨vB, rfl, hoB, hbB⟩; rw [← HLF.out] at hoB; obtain ⟨AB, cB, rfl⟩ := Kd.R_slice hoB; have HI10 : Aside0 (IsS65 w w10 g F) := ⟨by first | exact HI9.out.below hbB | exact (HI9.out.drewN _).below hbB⟩; have HR10 : Aside0 (Ex.IsR w w10 g2 F) := ⟨by first | exact HR9.out.below hbB | exact (HR9.out.drewN _).below hbB⟩; have HB10 : Aside0 (Below w.heap.size w w10) := ⟨by first | exact below_step HB9.out hbB | exact below_step (pw_below_drewN HB9.out _) hbB⟩; have HCA : Aside0 (Kd.C k29 w10 AA lF.length lF ∧ lF.length ≤ cA) := ⟨by first | exact ⟨(Kd.R_reads' (Kd.R_below HOA.out hbB)).2.2, (Kd.R_reads' HOA.out).2.1⟩ | exact ⟨(Kd.R_reads' (Kd.R_below (Kd.R_drewN HOA.out _) hbB)).2.2, (Kd.R_reads' HOA.out).2.1⟩⟩; have HCB := Aside0.mk hoB; clear hoB hbB HOA)| (go_at_call 26; refine (gimbalref0_EqSubs.calls ke AA cA lF AB cB lF true _ ?q1 ?q2 ?q3 ?q4 HKE.out).mono ?_; (case q1 => exact HCA.out.1); (case q2 => exact HCA.out.2); (case q3 => exact (Kd.R_reads' HCB.out).2.2); (case q4 => exact (Kd.R_reads' HCB.out).2.1); rintro e w11 ⟨rfl, ne, rfl⟩))
                refine Cu.handed (60 - (i + 1)) (by have := HK.out; omega) (by assumption) ?_ (by kernel_rfl) (by kernel_rfl)
                try dsimp only [Cu.pick, Cu.rep, Cu.nth]
                exact ⟨F, i + 1, by rw [Int.natCast_add]; rfl, ⟨by omega⟩, ⟨HFD.out.1⟩, ⟨HFD.out.2.1⟩, ⟨HFD.out.2.2⟩, ⟨HI10.out.drewN _⟩, ⟨HR10.out.drewN _⟩, ⟨pw_below_drewN HB10.out _⟩⟩
            · obtain ⟨l, hl⟩ : ∃ l, l = ([] : List Int) := ⟨_, rfl⟩
              obtain ⟨kn, hkn⟩ := Ex.eqn_f ([] : List Int) (by decide)
              have hkn : gimbalref0_EqNumbers.f kn l [] = some true := by rw [hl]; exact hkn
              have hnd : rate_Table_Needing.f E xb = some (l, 1, E) := by unfold rate_Table_Needing.f; rw [if_pos HL.out, if_neg (by simp [p1]), hl]
              have HND := Aside0.mk hnd
              have HKN := Aside0.mk hkn
              clear hnd hkn hl
              go_upto_region 46 with (first | (go_at_call 7; with_reducible refine (HWM.out _).mono ?_; rintro e w3 ⟨rfl, nd, rfl⟩)| (go_at_call 24; with_reducible refine (rate_Table_Needing.calls g E xb l 1 E w _ ?sI ?sB HND.out).mono ?_; (case sI => first | exact HI.out | exact HI.out.drewN _); (case sB => first | exact HB.out | exact pw_below_drewN HB.out _); rintro e w5 ⟨vA, rfl, ho5, hi5, hb5, hk5⟩; obtain ⟨AA, cA, rfl⟩ := Kd.R_slice ho5; have HR5 : Aside0 (Ex.IsR w w5 g2 E) := ⟨by first | exact Ex.IsR.keep HR.out HI.out hk5 | exact Ex.IsR.keep (HR.out.drewN _) (HI.out.drewN _) hk5⟩; have HOA := Aside0.mk ho5; clear ho5; have HI5 := Aside0.mk hi5; have HB5 := Aside0.mk hb5; clear hi5 hb5 hk5)| (go_at_call 8; with_reducible refine (gimballaw27_num.calls _ _ _ rfl).mono ?_; rintro e w6 ⟨rfl, nn, rfl⟩)| (go_at_call 21; refine (gimbalref0_EqNumbers.calls kn AA cA l none 0 [] true _ ?q1 ?q2 ?q3 ?q4 HKN.out).mono ?_; (case q1 => first | exact (Kd.R_reads' HOA.out).2.2 | exact (Kd.R_reads' (Kd.R_drewN HOA.out _)).2.2); (case q2 => exact (Kd.R_reads' HOA.out).2.1); (case q3 => exact Kd.C_nil _ _); (case q4 => exact Nat.le_refl _); rintro e w11 ⟨rfl, ne, rfl⟩))
              replace HI5 := Aside0.mk (HI5.out.drewN (nn + ne))
              replace HR5 := Aside0.mk (HR5.out.drewN (nn + ne))
              replace HB5 := Aside0.mk (pw_below_drewN HB5.out (nn + ne))
              obtain ⟨F, hF⟩ : ∃ F : Rt.Tb, F = E := ⟨_, rfl⟩
              have hfd : Rt.Own F ∧ Ex.Sen F ∧ F.length ≤ i + 1 := by rw [hF]; exact ⟨HOW.out, HSN.out, Nat.le_succ_of_le HE.out⟩
              have HI8 := HI5; rw [← hF] at HI8
              have HR8 := HR5; rw [← hF] at HR8
              obtain ⟨lF, hlF⟩ : ∃ l, l = F.map (fun x => (⟨x.a, x.b, x.p, x.q⟩ : S29)) := ⟨_, rfl⟩
              have hll : lF.length < 1000000 := by rw [hlF, List.length_map]; have := hfd.2.2; omega
              obtain ⟨ke, hke⟩ := Ex.eqs_f lF hll
              have hall : rate_Table_All.f F = some (lF, F) := by rw [hlF]; exact if_pos (by have := hfd.2.2; omega)
              have hlt : F.length < 1000000 := by have := hfd.2.2; omega
              have HFD := Aside0.mk hfd
              have HLF := Aside0.mk hlF
              have HKE := Aside0.mk hke
              have HALL := Aside0.mk hall
              have HLT := Aside0.mk hlt
              clear hfd hlF hke hall hlt hll hF
              go_wp2_with (first | (go_at_call 16; with_reducible refine (rate_Table_All.calls g F lF F w _ ?sI ?sB HALL.out).mono ?_; (case sI => first | exact HI8.out | exact HI8.out.drewN _); (case sB => first | exact HB5.out | exact pw_below_drewN HB5.out _); rintro e w9 ⟨vA, rfl, hoA, hi9, hb9, hk9⟩; obtain ⟨AA, cA, rfl⟩ := Kd.R_slice hoA; have HR9 : Aside0 (Ex.IsR w w9 g2 F) := ⟨by first | exact Ex.IsR.keep HR8.out HI8.out hk9 | exact Ex.IsR.keep (HR8.out.drewN _) (HI8.out.drewN _) hk9⟩; have HOA := Aside0.mk hoA; clear hoA; have HI9 := Aside0.mk hi9; have HB9 := Aside0.mk hb9; clear hi9 hb9 hk9)| (go_at_call 27; with_reducible refine (Ex.all (w0 := w) (E := F) ?sR ?sB HLT.out).mono ?_; (case sR => first | exact HR9.out | exact HR9.out.drewN _); (case sB => first | exact HB9.out | exact pw_below_drewN HB9.out _); rintro e w10 ⟨vB, rfl, hoB, hbB⟩; rw [← HLF.out] at hoB; obtain ⟨AB, cB, rfl⟩ := Kd.R_slice hoB; have HI10 : Aside0 (IsS65 w w10 g F) := ⟨by first | exact HI9.out.below hbB | exact (HI9.out.drewN _).below hbB⟩; have HR10 : Aside0 (Ex.IsR w w10 g2 F) := ⟨by first | exact HR9.out.below hbB | exact (HR9.out.drewN _).below hbB⟩; have HB10 : Aside0 (Below w.heap.size w w10) := ⟨by first | exact below_step HB9.out hbB | exact below_step (pw_below_drewN HB9.out _) hbB⟩; have HCA : Aside0 (Kd.C k29 w10 AA lF.length lF ∧ lF.length ≤ cA) := ⟨by first | exact ⟨(Kd.R_reads' (Kd.R_below HOA.out hbB)).2.2, (Kd.R_reads' HOA.out).2.1⟩ | exact ⟨(Kd.R_reads' (Kd.R_below (Kd.R_drewN HOA.out _) hbB)).2.2, (Kd.R_reads' HOA.out).2.1⟩⟩; have HCB := Aside0.mk hoB; clear hoB hbB HOA)| (go_at_call 26; refine (gimbalref0_EqSubs.calls ke AA cA lF AB cB lF true _ ?q1 ?q2 ?q3 ?q4 HKE.out).mono ?_; (case q1 => exact HCA.out.1); (case q2 => exact HCA.out.2); (case q3 => exact (Kd.R_reads' HCB.out).2.2); (case q4 => exact (Kd.R_reads' HCB.out).2.1); rintro e w11 ⟨rfl, ne, rfl⟩))
              refine Cu.handed (60 - (i + 1)) (by have := HK.out; omega) (by assumption) ?_ (by kernel_rfl) (by kernel_rfl)
              try dsimp only [Cu.pick, Cu.rep, Cu.nth]
              exact ⟨F, i + 1, by rw [Int.natCast_add]; rfl, ⟨by omega⟩, ⟨HFD.out.1⟩, ⟨HFD.out.2.1⟩, ⟨HFD.out.2.2⟩, ⟨HI10.out.drewN _⟩, ⟨HR10.out.drewN _⟩, ⟨pw_below_drewN HB10.out _⟩⟩
          · by_cases hm5 : m = 5
            · subst hm5
              have HBS : Aside0 (w.heap.size ≤ w1.heap.size) := ⟨HB.out.size⟩
              by_cases p1 : 1 ≤ xb
              · by_cases p2 : xb ≤ 16
                · cases p3 : Rt.timeOk xn with
                  | true =>
                    by_cases p4 : xb ≤ 15
                    · obtain ⟨l, hl⟩ : ∃ l, l = Rt.takeL E xb xn := ⟨_, rfl⟩
                      have hln : l.length < 1000000 := by rw [hl]; have := Rt.takeL_len E xb xn; have := HL.out; omega
                      obtain ⟨kn, hkn⟩ := Ex.eqn_f l hln
                      obtain ⟨kb, hkb⟩ := Ex.num_f l hln
                      have htk : rate_Table_Take.f E xb xn = some (l, 0, Rt.takeE E xb xn) := by unfold rate_Table_Take.f; rw [if_pos HL.out, if_pos (by rw [p3]; unfold Rt.senOk; simp; omega), hl]
                      have HP4 := Aside0.mk p4
                      have htm : gimbalref0_Time.f xn = some true := by rw [Ex.time_f, p3]
                      have HTM := Aside0.mk htm
                      have HTK := Aside0.mk htk
                      have HKN := Aside0.mk hkn
                      have HKB := Aside0.mk hkb
                      have HLL := Aside0.mk hl
                      clear htm htk hkn hkb hl hln p3 p4
                      go_upto_region 46 with (first | (go_at_call 7; with_reducible refine (HWM.out _).mono ?_; rintro e w3 ⟨rfl, nd, rfl⟩)| (go_at_call 19; with_reducible refine (gimbalref0_Time.calls xn _ _ HTM.out).mono ?_; rintro e w2 ⟨rfl, nt, rfl⟩)| (go_at_call 20; with_reducible refine (Ex.take (w0 := w) (E := E) ?sR ?sB xb xn HP4.out HOW.out HL.out).mono ?_; (case sR => first | exact HR.out | exact HR.out.drewN _); (case sB => first | exact HB.out | exact pw_below_drewN HB.out _); rintro e w4 ⟨vW, v2, rfl, hoW, hr4, hb4, hm4⟩; rw [← HLL.out] at hoW; obtain ⟨AW, cW, rfl⟩ := Kd.R_slice hoW; have HI4 : Aside0 (IsS65 w w4 g E) := ⟨by first | exact Ex.IsS.rmov HI.out HR.out hm4 | exact Ex.IsS.rmov (HI.out.drewN _) (HR.out.drewN _) hm4⟩; have BK4 : Aside0 (w4.heap[bx]? = some (.cells #[.int .i64 xd, .int .i64 xa, .int .i64 xb, .int .i64 xp, .int .i64 xq, .int .i64 xn] 31 (0, 0))) := ⟨by first | exact Ex.rbox hm4 HR.out BK.out | exact Ex.rbox hm4 (HR.out.drewN _) (Ex.bkd BK.out _)⟩; obtain ⟨z0, z1, z2, z3, z4, z5⟩ := Ex.c6 BK4.out; have HOW4 := Aside0.mk hoW; clear hoW; have HR4 := Aside0.mk hr4; have HB4 := Aside0.mk hb4; clear hr4 hb4 hm4)| (go_at_call 11; with_reducible refine (rate_Table_Take.calls g E xb xn _ _ _ w _ ?sI ?sB HTK.out).mono ?_; (case sI => first | exact HI4.out | exact HI4.out.drewN _); (case sB => first | exact HB4.out | exact pw_below_drewN HB4.out _); rintro e w5 ⟨vA, rfl, ho5, hi5, hb5, hk5⟩; obtain ⟨AA, cA, rfl⟩ := Kd.R_slice ho5; have HOW5 : Aside0 (Kd.R (Kd.int .i64) 3 w5 _ _ (.slice AW l.length cW) l) := ⟨by first | exact Ex.rows_keep HOW4.out HI4.out hk5 (by decide) | exact Ex.rows_keep (Kd.R_drewN HOW4.out _) (HI4.out.drewN _) hk5 (by decide)⟩; have HR5 : Aside0 (Ex.IsR w w5 g2 (Rt.takeE E xb xn)) := ⟨by first | exact Ex.IsR.keep HR4.out HI4.out hk5 | exact Ex.IsR.keep (HR4.out.drewN _) (HI4.out.drewN _) hk5⟩; have HOA := Aside0.mk ho5; clear ho5; have HI5 := Aside0.mk hi5; have HB5 := Aside0.mk hb5; clear hi5 hb5 hk5)| (go_at_call 8; with_reducible refine (gimballaw27_num.calls _ _ _ rfl).mono ?_; rintro e w6 ⟨rfl, nn, rfl⟩)| (go_at_call 21; refine (gimbalref0_EqNumbers.calls kn AA cA l AW cW l true _ ?q1 ?q2 ?q3 ?q4 HKN.out).mono ?_; (case q1 => first | exact (Kd.R_reads' HOA.out).2.2 | exact (Kd.R_reads' (Kd.R_drewN HOA.out _)).2.2); (case q2 => exact (Kd.R_reads' HOA.out).2.1); (case q3 => first | exact (Kd.R_reads' HOW5.out).2.2 | exact (Kd.R_reads' (Kd.R_drewN HOW5.out _)).2.2); (case q4 => exact (Kd.R_reads' HOW5.out).2.1); rintro e w11 ⟨rfl, ne, rfl⟩)| (go_at_call 22; with_reducible refine (gimballaw0_Numbers.calls kb (fun k => some k = (Value.slice AA l.length cA).ownBlock) (.slice AA l.length cA) l w _ ?sB ?sO HKB.out).mono ?_; (case sB => exact pw_below_drewN HB5.out _); (case sO => exact Kd.R_lower (Kd.R_drewN (Kd.R_tight rfl HOA.out) _) (by first | exact HB4.out.size | exact (pw_below_drewN HB4.out _).size | exact HB.out.size | exact (pw_below_drewN HB.out _).size)); rintro e w6 ⟨rfl, hb6, hk6⟩; have HI6 : Aside0 (IsS65 w w6 g (Rt.takeE E xb xn)) := ⟨Ex.IsS.kept (HI5.out.drewN _) (Kd.R_drewN HOA.out _) hk6⟩; have HR6 : Aside0 (Ex.IsR w w6 g2 (Rt.takeE E xb xn)) := ⟨Ex.IsR.kept (HR5.out.drewN _) (Kd.R_drewN HOA.out _) hk6⟩; have HB6 := Aside0.mk hb6; clear hb6 hk6))
                      obtain ⟨F, hF⟩ : ∃ F : Rt.Tb, F = Rt.takeE E xb xn := ⟨_, rfl⟩
                      have hfd : Rt.Own F ∧ Ex.Sen F ∧ F.length ≤ i + 1 := by rw [hF]; exact ⟨Ex.Own.take HOW.out _ _, HSN.out.take _ _, by unfold Rt.takeE; rw [List.length_map]; exact Nat.le_succ_of_le HE.out⟩
                      have HI8 := HI6; rw [← hF] at HI8
                      have HR8 := HR6; rw [← hF] at HR8
                      obtain ⟨lF, hlF⟩ : ∃ l, l = F.map (fun x => (⟨x.a, x.b, x.p, x.q⟩ : S29)) := ⟨_, rfl⟩
                      have hll : lF.length < 1000000 := by rw [hlF, List.length_map]; have := hfd.2.2; omega
                      obtain ⟨ke, hke⟩ := Ex.eqs_f lF hll
                      have hall : rate_Table_All.f F = some (lF, F) := by rw [hlF]; exact if_pos (by have := hfd.2.2; omega)
                      have hlt : F.length < 1000000 := by have := hfd.2.2; omega
                      have HFD := Aside0.mk hfd
                      have HLF := Aside0.mk hlF
                      have HKE := Aside0.mk hke
                      have HALL := Aside0.mk hall
                      have HLT := Aside0.mk hlt
                      clear hfd hlF hke hall hlt hll hF
                      go_wp2_with (first | (go_at_call 16; with_reducible refine (rate_Table_All.calls g F lF F w _ ?sI ?sB HALL.out).mono ?_; (case sI => first | exact HI8.out | exact HI8.out.drewN _); (case sB => first | exact HB6.out | exact pw_below_drewN HB6.out _); rintro e w9 ⟨vA, rfl, hoA, hi9, hb9, hk9⟩; obtain ⟨AA, cA, rfl⟩ := Kd.R_slice hoA; have HR9 : Aside0 (Ex.IsR w w9 g2 F) := ⟨by first | exact Ex.IsR.keep HR8.out HI8.out hk9 | exact Ex.IsR.keep (HR8.out.drewN _) (HI8.out.drewN _) hk9⟩; have HOA := Aside0.mk hoA; clear hoA; have HI9 := Aside0.mk hi9; have HB9 := Aside0.mk hb9; clear hi9 hb9 hk9)| (go_at_call 27; with_reducible refine (Ex.all (w0 := w) (E := F) ?sR ?sB HLT.out).mono ?_; (case sR => first | exact HR9.out | exact HR9.out.drewN _); (case sB => first | exact HB9.out | exact pw_below_drewN HB9.out _); rintro e w10 ⟨vB, rfl, hoB, hbB⟩; rw [← HLF.out] at hoB; obtain ⟨AB, cB, rfl⟩ := Kd.R_slice hoB; have HI10 : Aside0 (IsS65 w w10 g F) := ⟨by first | exact HI9.out.below hbB | exact (HI9.out.drewN _).below hbB⟩; have HR10 : Aside0 (Ex.IsR w w10 g2 F) := ⟨by first | exact HR9.out.below hbB | exact (HR9.out.drewN _).below hbB⟩; have HB10 : Aside0 (Below w.heap.size w w10) := ⟨by first | exact below_step HB9.out hbB | exact below_step (pw_below_drewN HB9.out _) hbB⟩; have HCA : Aside0 (Kd.C k29 w10 AA lF.length lF ∧ lF.length ≤ cA) := ⟨by first | exact ⟨(Kd.R_reads' (Kd.R_below HOA.out hbB)).2.2, (Kd.R_reads' HOA.out).2.1⟩ | exact ⟨(Kd.R_reads' (Kd.R_below (Kd.R_drewN HOA.out _) hbB)).2.2, (Kd.R_reads' HOA.out).2.1⟩⟩; have HCB := Aside0.mk hoB; clear hoB hbB HOA)| (go_at_call 26; refine (gimbalref0_EqSubs.calls ke AA cA lF AB cB lF true _ ?q1 ?q2 ?q3 ?q4 HKE.out).mono ?_; (case q1 => exact HCA.out.1); (case q2 => exact HCA.out.2); (case q3 => exact (Kd.R_reads' HCB.out).2.2); (case q4 => exact (Kd.R_reads' HCB.out).2.1); rintro e w11 ⟨rfl, ne, rfl⟩))
                      refine Cu.handed (60 - (i + 1)) (by have := HK.out; omega) (by assumption) ?_ (by kernel_rfl) (by kernel_rfl)
                      try dsimp only [Cu.pick, Cu.rep, Cu.nth]
                      exact ⟨F, i + 1, by rw [Int.natCast_add]; rfl, ⟨by omega⟩, ⟨HFD.out.1⟩, ⟨HFD.out.2.1⟩, ⟨HFD.out.2.2⟩, ⟨HI10.out.drewN _⟩, ⟨HR10.out.drewN _⟩, ⟨pw_below_drewN HB10.out _⟩⟩
                    · obtain ⟨l, hl⟩ : ∃ l, l = Rt.takeL E xb xn := ⟨_, rfl⟩
                      have hln : l.length < 1000000 := by rw [hl]; have := Rt.takeL_len E xb xn; have := HL.out; omega
                      obtain ⟨kn, hkn⟩ := Ex.eqn_f l hln
                      obtain ⟨kb, hkb⟩ := Ex.num_f l hln
                      obtain rfl : xb = 16 := by omega
                      obtain ⟨hn1, hn2⟩ := HSN.out.none xn
                      have htk : rate_Table_Take.f E 16 xn = some (l, 0, Rt.takeE E 16 xn) := by unfold rate_Table_Take.f; rw [if_pos HL.out, if_pos (by rw [p3]; decide), hl]
                      have hl0 : l = [] := hl.trans hn1
                      have htm : gimbalref0_Time.f xn = some true := by rw [Ex.time_f, p3]
                      have HTM := Aside0.mk htm
                      have HTK := Aside0.mk htk
                      have HKN := Aside0.mk hkn
                      have HKB := Aside0.mk hkb
                      have HLL := Aside0.mk hl
                      have HL0 := Aside0.mk hl0
                      have HN2 := Aside0.mk hn2
                      clear hl0 hn1 hn2
                      clear htm htk hkn hkb hl hln p3 p4
                      go_upto_region 46 with (first | (go_at_call 7; with_reducible refine (HWM.out _).mono ?_; rintro e w3 ⟨rfl, nd, rfl⟩)| (go_at_call 19; with_reducible refine (gimbalref0_Time.calls xn _ _ HTM.out).mono ?_; rintro e w2 ⟨rfl, nt, rfl⟩)| (go_at_call 20; with_reducible refine (Ex.take16 (w0 := w) (E := E) (g := g2) ?sR xn HL.out).mono ?_; (case sR => first | exact HR.out | exact HR.out.drewN _); rintro e w4 ⟨rfl, rfl⟩)| (go_at_call 11; with_reducible refine (rate_Table_Take.calls g E 16 xn _ _ _ w _ ?sI ?sB HTK.out).mono ?_; (case sI => first | exact HI.out | exact HI.out.drewN _); (case sB => first | exact HB.out | exact pw_below_drewN HB.out _); rintro e w5 ⟨vA, rfl, ho5, hi5, hb5, hk5⟩; obtain ⟨AA, cA, rfl⟩ := Kd.R_slice ho5; rw [HN2.out] at hi5; have HR5 : Aside0 (Ex.IsR w w5 g2 E) := ⟨by first | exact Ex.IsR.keep HR.out HI.out hk5 | exact Ex.IsR.keep (HR.out.drewN _) (HI.out.drewN _) hk5⟩; have HOA := Aside0.mk ho5; clear ho5; have HI5 := Aside0.mk hi5; have HB5 := Aside0.mk hb5; clear hi5 hb5 hk5)| (go_at_call 8; with_reducible refine (gimballaw27_num.calls _ _ _ rfl).mono ?_; rintro e w6 ⟨rfl, nn, rfl⟩)| (go_at_call 21; refine (gimbalref0_EqNumbers.calls kn AA cA l none 0 [] true _ ?q1 ?q2 ?q3 ?q4 (by have := HKN.out; have h0 := HL0.out; rw [h0] at this ⊢; exact this)).mono ?_; (case q1 => first | exact (Kd.R_reads' HOA.out).2.2 | exact (Kd.R_reads' (Kd.R_drewN HOA.out _)).2.2); (case q2 => exact (Kd.R_reads' HOA.out).2.1); (case q3 => exact Kd.C_nil _ _); (case q4 => exact Nat.le_refl _); rintro e w11 ⟨rfl, ne, rfl⟩)| (go_at_call 22; with_reducible refine (gimballaw0_Numbers.calls kb (fun k => some k = (Value.slice AA l.length cA).ownBlock) (.slice AA l.length cA) l w _ ?sB ?sO HKB.out).mono ?_; (case sB => exact pw_below_drewN HB5.out _); (case sO => exact Kd.R_lower (Kd.R_drewN (Kd.R_tight rfl HOA.out) _) (by first | exact HB4.out.size | exact (pw_below_drewN HB4.out _).size | exact HB.out.size | exact (pw_below_drewN HB.out _).size)); rintro e w6 ⟨rfl, hb6, hk6⟩; have HI6 : Aside0 (IsS65 w w6 g E) := ⟨Ex.IsS.kept (HI5.out.drewN _) (Kd.R_drewN HOA.out _) hk6⟩; have HR6 : Aside0 (Ex.IsR w w6 g2 E) := ⟨Ex.IsR.kept (HR5.out.drewN _) (Kd.R_drewN HOA.out _) hk6⟩; have HB6 := Aside0.mk hb6; clear hb6 hk6))
                      obtain ⟨F, hF⟩ : ∃ F : Rt.Tb, F = E := ⟨_, rfl⟩
                      have hfd : Rt.Own F ∧ Ex.Sen F ∧ F.length ≤ i + 1 := by rw [hF]; exact ⟨HOW.out, HSN.out, Nat.le_succ_of_le HE.out⟩
                      have HI8 := HI6; rw [← hF] at HI8
                      have HR8 := HR6; rw [← hF] at HR8
                      obtain ⟨lF, hlF⟩ : ∃ l, l = F.map (fun x => (⟨x.a, x.b, x.p, x.q⟩ : S29)) := ⟨_, rfl⟩
                      have hll : lF.length < 1000000 := by rw [hlF, List.length_map]; have := hfd.2.2; omega
                      obtain ⟨ke, hke⟩ := Ex.eqs_f lF hll
                      have hall : rate_Table_All.f F = some (lF, F) := by rw [hlF]; exact if_pos (by have := hfd.2.2; omega)
                      have hlt : F.length < 1000000 := by have := hfd.2.2; omega
                      have HFD := Aside0.mk hfd
                      have HLF := Aside0.mk hlF
                      have HKE := Aside0.mk hke
                      have HALL := Aside0.mk hall
                      have HLT := Aside0.mk hlt
                      clear hfd hlF hke hall hlt hll hF
                      go_wp2_with (first | (go_at_call 16; with_reducible refine (rate_Table_All.calls g F lF F w _ ?sI ?sB HALL.out).mono ?_; (case sI => first | exact HI8.out | exact HI8.out.drewN _); (case sB => first | exact HB6.out | exact pw_below_drewN HB6.out _); rintro e w9 ⟨vA, rfl, hoA, hi9, hb9, hk9⟩; obtain ⟨AA, cA, rfl⟩ := Kd.R_slice hoA; have HR9 : Aside0 (Ex.IsR w w9 g2 F) := ⟨by first | exact Ex.IsR.keep HR8.out HI8.out hk9 | exact Ex.IsR.keep (HR8.out.drewN _) (HI8.out.drewN _) hk9⟩; have HOA := Aside0.mk hoA; clear hoA; have HI9 := Aside0.mk hi9; have HB9 := Aside0.mk hb9; clear hi9 hb9 hk9)| (go_at_call 27; with_reducible refine (Ex.all (w0 := w) (E := F) ?sR ?sB HLT.out).mono ?_; (case sR => first | exact HR9.out | exact HR9.out.drewN _); (case sB => first | exact HB9.out | exact pw_below_drewN HB9.out _); rintro e w10 ⟨vB, rfl, hoB, hbB⟩; rw [← HLF.out] at hoB; obtain ⟨AB, cB, rfl⟩ := Kd.R_slice hoB; have HI10 : Aside0 (IsS65 w w10 g F) := ⟨by first | exact HI9.out.below hbB | exact (HI9.out.drewN _).below hbB⟩; have HR10 : Aside0 (Ex.IsR w w10 g2 F) := ⟨by first | exact HR9.out.below hbB | exact (HR9.out.drewN _).below hbB⟩; have HB10 : Aside0 (Below w.heap.size w w10) := ⟨by first | exact below_step HB9.out hbB | exact below_step (pw_below_drewN HB9.out _) hbB⟩; have HCA : Aside0 (Kd.C k29 w10 AA lF.length lF ∧ lF.length ≤ cA) := ⟨by first | exact ⟨(Kd.R_reads' (Kd.R_below HOA.out hbB)).2.2, (Kd.R_reads' HOA.out).2.1⟩ | exact ⟨(Kd.R_reads' (Kd.R_below (Kd.R_drewN HOA.out _) hbB)).2.2, (Kd.R_reads' HOA.out).2.1⟩⟩; have HCB := Aside0.mk hoB; clear hoB hbB HOA)| (go_at_call 26; refine (gimbalref0_EqSubs.calls ke AA cA lF AB cB lF true _ ?q1 ?q2 ?q3 ?q4 HKE.out).mono ?_; (case q1 => exact HCA.out.1); (case q2 => exact HCA.out.2); (case q3 => exact (Kd.R_reads' HCB.out).2.2); (case q4 => exact (Kd.R_reads' HCB.out).2.1); rintro e w11 ⟨rfl, ne, rfl⟩))
                      refine Cu.handed (60 - (i + 1)) (by have := HK.out; omega) (by assumption) ?_ (by kernel_rfl) (by kernel_rfl)
                      try dsimp only [Cu.pick, Cu.rep, Cu.nth]
                      exact ⟨F, i + 1, by rw [Int.natCast_add]; rfl, ⟨by omega⟩, ⟨HFD.out.1⟩, ⟨HFD.out.2.1⟩, ⟨HFD.out.2.2⟩, ⟨HI10.out.drewN _⟩, ⟨HR10.out.drewN _⟩, ⟨pw_below_drewN HB10.out _⟩⟩
                  | false =>
                    obtain ⟨l, hl⟩ : ∃ l, l = ([] : List Int) := ⟨_, rfl⟩
                    obtain ⟨kn, hkn⟩ := Ex.eqn_f ([] : List Int) (by decide)
                    have hkn : gimbalref0_EqNumbers.f kn l [] = some true := by rw [hl]; exact hkn
                    obtain ⟨kb, hkb⟩ := Ex.num_f ([] : List Int) (by decide)
                    have hkb : gimballaw0_Numbers.f kb l = some () := by rw [hl]; exact hkb
                    have htk : rate_Table_Take.f E xb xn = some (l, 1, E) := by unfold rate_Table_Take.f; rw [if_pos HL.out, if_neg (by rw [p3]; simp), hl]
                    have htm : gimbalref0_Time.f xn = some false := by rw [Ex.time_f, p3]
                    have HTM := Aside0.mk htm
                    clear htm p3
                    have HTK := Aside0.mk htk
                    have HKN := Aside0.mk hkn
                    have HKB := Aside0.mk hkb
                    clear htk hkn hkb hl
                    go_upto_region 46 with (first | (go_at_call 7; with_reducible refine (HWM.out _).mono ?_; rintro e w3 ⟨rfl, nd, rfl⟩)| (go_at_call 19; with_reducible refine (gimbalref0_Time.calls xn _ _ HTM.out).mono ?_; rintro e w2 ⟨rfl, nt, rfl⟩)| (go_at_call 11; with_reducible refine (rate_Table_Take.calls g E xb xn _ _ _ w _ ?sI ?sB HTK.out).mono ?_; (case sI => first | exact HI.out | exact HI.out.drewN _); (case sB => first | exact HB.out | exact pw_below_drewN HB.out _); rintro e w5 ⟨vA, rfl, ho5, hi5, hb5, hk5⟩; obtain ⟨AA, cA, rfl⟩ := Kd.R_slice ho5; have HR5 : Aside0 (Ex.IsR w w5 g2 E) := ⟨by first | exact Ex.IsR.keep HR.out HI.out hk5 | exact Ex.IsR.keep (HR.out.drewN _) (HI.out.drewN _) hk5⟩; have HOA := Aside0.mk ho5; clear ho5; have HI5 := Aside0.mk hi5; have HB5 := Aside0.mk hb5; clear hi5 hb5 hk5)| (go_at_call 8; with_reducible refine (gimballaw27_num.calls _ _ _ rfl).mono ?_; rintro e w6 ⟨rfl, nn, rfl⟩)| (go_at_call 21; refine (gimbalref0_EqNumbers.calls kn AA cA l none 0 [] true _ ?q1 ?q2 ?q3 ?q4 HKN.out).mono ?_; (case q1 => first | exact (Kd.R_reads' HOA.out).2.2 | exact (Kd.R_reads' (Kd.R_drewN HOA.out _)).2.2); (case q2 => exact (Kd.R_reads' HOA.out).2.1); (case q3 => exact Kd.C_nil _ _); (case q4 => exact Nat.le_refl _); rintro e w11 ⟨rfl, ne, rfl⟩)| (go_at_call 22; with_reducible refine (gimballaw0_Numbers.calls kb (fun k => some k = (Value.slice AA l.length cA).ownBlock) (.slice AA l.length cA) l w _ ?sB ?sO HKB.out).mono ?_; (case sB => exact pw_below_drewN HB5.out _); (case sO => exact Kd.R_lower (Kd.R_drewN (Kd.R_tight rfl HOA.out) _) (by first | exact HB4.out.size | exact (pw_below_drewN HB4.out _).size | exact HB.out.size | exact (pw_below_drewN HB.out _).size)); rintro e w6 ⟨rfl, hb6, hk6⟩; have HI6 : Aside0 (IsS65 w w6 g E) := ⟨Ex.IsS.kept (HI5.out.drewN _) (Kd.R_drewN HOA.out _) hk6⟩; have HR6 : Aside0 (Ex.IsR w w6 g2 E) := ⟨Ex.IsR.kept (HR5.out.drewN _) (Kd.R_drewN HOA.out _) hk6⟩; have HB6 := Aside0.mk hb6; clear hb6 hk6))
                    obtain ⟨F, hF⟩ : ∃ F : Rt.Tb, F = E := ⟨_, rfl⟩
                    have hfd : Rt.Own F ∧ Ex.Sen F ∧ F.length ≤ i + 1 := by rw [hF]; exact ⟨HOW.out, HSN.out, Nat.le_succ_of_le HE.out⟩
                    have HI8 := HI6; rw [← hF] at HI8
                    have HR8 := HR6; rw [← hF] at HR8
                    obtain ⟨lF, hlF⟩ : ∃ l, l = F.map (fun x => (⟨x.a, x.b, x.p, x.q⟩ : S29)) := ⟨_, rfl⟩
                    have hll : lF.length < 1000000 := by rw [hlF, List.length_map]; have := hfd.2.2; omega
                    obtain ⟨ke, hke⟩ := Ex.eqs_f lF hll
                    have hall : rate_Table_All.f F = some (lF, F) := by rw [hlF]; exact if_pos (by have := hfd.2.2; omega)
                    have hlt : F.length < 1000000 := by have := hfd.2.2; omega
                    have HFD := Aside0.mk hfd
                    have HLF := Aside0.mk hlF
                    have HKE := Aside0.mk hke
                    have HALL := Aside0.mk hall
                    have HLT := Aside0.mk hlt
                    clear hfd hlF hke hall hlt hll hF
                    go_wp2_with (first | (go_at_call 16; with_reducible refine (rate_Table_All.calls g F lF F w _ ?sI ?sB HALL.out).mono ?_; (case sI => first | exact HI8.out | exact HI8.out.drewN _); (case sB => first | exact HB6.out | exact pw_below_drewN HB6.out _); rintro e w9 ⟨vA, rfl, hoA, hi9, hb9, hk9⟩; obtain ⟨AA, cA, rfl⟩ := Kd.R_slice hoA; have HR9 : Aside0 (Ex.IsR w w9 g2 F) := ⟨by first | exact Ex.IsR.keep HR8.out HI8.out hk9 | exact Ex.IsR.keep (HR8.out.drewN _) (HI8.out.drewN _) hk9⟩; have HOA := Aside0.mk hoA; clear hoA; have HI9 := Aside0.mk hi9; have HB9 := Aside0.mk hb9; clear hi9 hb9 hk9)| (go_at_call 27; with_reducible refine (Ex.all (w0 := w) (E := F) ?sR ?sB HLT.out).mono ?_; (case sR => first | exact HR9.out | exact HR9.out.drewN _); (case sB => first | exact HB9.out | exact pw_below_drewN HB9.out _); rintro e w10 ⟨vB, rfl, hoB, hbB⟩; rw [← HLF.out] at hoB; obtain ⟨AB, cB, rfl⟩ := Kd.R_slice hoB; have HI10 : Aside0 (IsS65 w w10 g F) := ⟨by first | exact HI9.out.below hbB | exact (HI9.out.drewN _).below hbB⟩; have HR10 : Aside0 (Ex.IsR w w10 g2 F) := ⟨by first | exact HR9.out.below hbB | exact (HR9.out.drewN _).below hbB⟩; have HB10 : Aside0 (Below w.heap.size w w10) := ⟨by first | exact below_step HB9.out hbB | exact below_step (pw_below_drewN HB9.out _) hbB⟩; have HCA : Aside0 (Kd.C k29 w10 AA lF.length lF ∧ lF.length ≤ cA) := ⟨by first | exact ⟨(Kd.R_reads' (Kd.R_below HOA.out hbB)).2.2, (Kd.R_reads' HOA.out).2.1⟩ | exact ⟨(Kd.R_reads' (Kd.R_below (Kd.R_drewN HOA.out _) hbB)).2.2, (Kd.R_reads' HOA.out).2.1⟩⟩; have HCB := Aside0.mk hoB; clear hoB hbB HOA)| (go_at_call 26; refine (gimbalref0_EqSubs.calls ke AA cA lF AB cB lF true _ ?q1 ?q2 ?q3 ?q4 HKE.out).mono ?_; (case q1 => exact HCA.out.1); (case q2 => exact HCA.out.2); (case q3 => exact (Kd.R_reads' HCB.out).2.2); (case q4 => exact (Kd.R_reads' HCB.out).2.1); rintro e w11 ⟨rfl, ne, rfl⟩))
                    refine Cu.handed (60 - (i + 1)) (by have := HK.out; omega) (by assumption) ?_ (by kernel_rfl) (by kernel_rfl)
                    try dsimp only [Cu.pick, Cu.rep, Cu.nth]
                    exact ⟨F, i + 1, by rw [Int.natCast_add]; rfl, ⟨by omega⟩, ⟨HFD.out.1⟩, ⟨HFD.out.2.1⟩, ⟨HFD.out.2.2⟩, ⟨HI10.out.drewN _⟩, ⟨HR10.out.drewN _⟩, ⟨pw_below_drewN HB10.out _⟩⟩
                · obtain ⟨l, hl⟩ : ∃ l, l = ([] : List Int) := ⟨_, rfl⟩
                  obtain ⟨kn, hkn⟩ := Ex.eqn_f ([] : List Int) (by decide)
                  have hkn : gimbalref0_EqNumbers.f kn l [] = some true := by rw [hl]; exact hkn
                  obtain ⟨kb, hkb⟩ := Ex.num_f ([] : List Int) (by decide)
                  have hkb : gimballaw0_Numbers.f kb l = some () := by rw [hl]; exact hkb
                  have htk : rate_Table_Take.f E xb xn = some (l, 1, E) := by unfold rate_Table_Take.f; rw [if_pos HL.out, if_neg (by unfold Rt.senOk; simp; omega), hl]
                  have HTK := Aside0.mk htk
                  have HKN := Aside0.mk hkn
                  have HKB := Aside0.mk hkb
                  clear htk hkn hkb hl
                  go_upto_region 46 with (first | (go_at_call 7; with_reducible refine (HWM.out _).mono ?_; rintro e w3 ⟨rfl, nd, rfl⟩)| (go_at_call 11; with_reducible refine (rate_Table_Take.calls g E xb xn _ _ _ w _ ?sI ?sB HTK.out).mono ?_; (case sI => first | exact HI.out | exact HI.out.drewN _); (case sB => first | exact HB.out | exact pw_below_drewN HB.out _); rintro e w5 ⟨vA, rfl, ho5, hi5, hb5, hk5⟩; obtain ⟨AA, cA, rfl⟩ := Kd.R_slice ho5; have HR5 : Aside0 (Ex.IsR w w5 g2 E) := ⟨by first | exact Ex.IsR.keep HR.out HI.out hk5 | exact Ex.IsR.keep (HR.out.drewN _) (HI.out.drewN _) hk5⟩; have HOA := Aside0.mk ho5; clear ho5; have HI5 := Aside0.mk hi5; have HB5 := Aside0.mk hb5; clear hi5 hb5 hk5)| (go_at_call 8; with_reducible refine (gimballaw27_num.calls _ _ _ rfl).mono ?_; rintro e w6 ⟨rfl, nn, rfl⟩)| (go_at_call 21; refine (gimbalref0_EqNumbers.calls kn AA cA l none 0 [] true _ ?q1 ?q2 ?q3 ?q4 HKN.out).mono ?_; (case q1 => first | exact (Kd.R_reads' HOA.out).2.2 | exact (Kd.R_reads' (Kd.R_drewN HOA.out _)).2.2); (case q2 => exact (Kd.R_reads' HOA.out).2.1); (case q3 => exact Kd.C_nil _ _); (case q4 => exact Nat.le_refl _); rintro e w11 ⟨rfl, ne, rfl⟩)| (go_at_call 22; with_reducible refine (gimballaw0_Numbers.calls kb (fun k => some k = (Value.slice AA l.length cA).ownBlock) (.slice AA l.length cA) l w _ ?sB ?sO HKB.out).mono ?_; (case sB => exact pw_below_drewN HB5.out _); (case sO => exact Kd.R_lower (Kd.R_drewN (Kd.R_tight rfl HOA.out) _) (by first | exact HB4.out.size | exact (pw_below_drewN HB4.out _).size | exact HB.out.size | exact (pw_below_drewN HB.out _).size)); rintro e w6 ⟨rfl, hb6, hk6⟩; have HI6 : Aside0 (IsS65 w w6 g E) := ⟨Ex.IsS.kept (HI5.out.drewN _) (Kd.R_drewN HOA.out _) hk6⟩; have HR6 : Aside0 (Ex.IsR w w6 g2 E) := ⟨Ex.IsR.kept (HR5.out.drewN _) (Kd.R_drewN HOA.out _) hk6⟩; have HB6 := Aside0.mk hb6; clear hb6 hk6))
                  obtain ⟨F, hF⟩ : ∃ F : Rt.Tb, F = E := ⟨_, rfl⟩
                  have hfd : Rt.Own F ∧ Ex.Sen F ∧ F.length ≤ i + 1 := by rw [hF]; exact ⟨HOW.out, HSN.out, Nat.le_succ_of_le HE.out⟩
                  have HI8 := HI6; rw [← hF] at HI8
                  have HR8 := HR6; rw [← hF] at HR8
                  obtain ⟨lF, hlF⟩ : ∃ l, l = F.map (fun x => (⟨x.a, x.b, x.p, x.q⟩ : S29)) := ⟨_, rfl⟩
                  have hll : lF.length < 1000000 := by rw [hlF, List.length_map]; have := hfd.2.2; omega
                  obtain ⟨ke, hke⟩ := Ex.eqs_f lF hll
                  have hall : rate_Table_All.f F = some (lF, F) := by rw [hlF]; exact if_pos (by have := hfd.2.2; omega)
                  have hlt : F.length < 1000000 := by have := hfd.2.2; omega
                  have HFD := Aside0.mk hfd
                  have HLF := Aside0.mk hlF
                  have HKE := Aside0.mk hke
                  have HALL := Aside0.mk hall
                  have HLT := Aside0.mk hlt
                  clear hfd hlF hke hall hlt hll hF
                  go_wp2_with (first | (go_at_call 16; with_reducible refine (rate_Table_All.calls g F lF F w _ ?sI ?sB HALL.out).mono ?_; (case sI => first | exact HI8.out | exact HI8.out.drewN _); (case sB => first | exact HB6.out | exact pw_below_drewN HB6.out _); rintro e w9 ⟨vA, rfl, hoA, hi9, hb9, hk9⟩; obtain ⟨AA, cA, rfl⟩ := Kd.R_slice hoA; have HR9 : Aside0 (Ex.IsR w w9 g2 F) := ⟨by first | exact Ex.IsR.keep HR8.out HI8.out hk9 | exact Ex.IsR.keep (HR8.out.drewN _) (HI8.out.drewN _) hk9⟩; have HOA := Aside0.mk hoA; clear hoA; have HI9 := Aside0.mk hi9; have HB9 := Aside0.mk hb9; clear hi9 hb9 hk9)| (go_at_call 27; with_reducible refine (Ex.all (w0 := w) (E := F) ?sR ?sB HLT.out).mono ?_; (case sR => first | exact HR9.out | exact HR9.out.drewN _); (case sB => first | exact HB9.out | exact pw_below_drewN HB9.out _); rintro e w10 ⟨vB, rfl, hoB, hbB⟩; rw [← HLF.out] at hoB; obtain ⟨AB, cB, rfl⟩ := Kd.R_slice hoB; have HI10 : Aside0 (IsS65 w w10 g F) := ⟨by first | exact HI9.out.below hbB | exact (HI9.out.drewN _).below hbB⟩; have HR10 : Aside0 (Ex.IsR w w10 g2 F) := ⟨by first | exact HR9.out.below hbB | exact (HR9.out.drewN _).below hbB⟩; have HB10 : Aside0 (Below w.heap.size w w10) := ⟨by first | exact below_step HB9.out hbB | exact below_step (pw_below_drewN HB9.out _) hbB⟩; have HCA : Aside0 (Kd.C k29 w10 AA lF.length lF ∧ lF.length ≤ cA) := ⟨by first | exact ⟨(Kd.R_reads' (Kd.R_below HOA.out hbB)).2.2, (Kd.R_reads' HOA.out).2.1⟩ | exact ⟨(Kd.R_reads' (Kd.R_below (Kd.R_drewN HOA.out _) hbB)).2.2, (Kd.R_reads' HOA.out).2.1⟩⟩; have HCB := Aside0.mk hoB; clear hoB hbB HOA)| (go_at_call 26; refine (gimbalref0_EqSubs.calls ke AA cA lF AB cB lF true _ ?q1 ?q2 ?q3 ?q4 HKE.out).mono ?_; (case q1 => exact HCA.out.1); (case q2 => exact HCA.out.2); (case q3 => exact (Kd.R_reads' HCB.out).2.2); (case q4 => exact (Kd.R_reads' HCB.out).2.1); rintro e w11 ⟨rfl, ne, rfl⟩))
                  refine Cu.handed (60 - (i + 1)) (by have := HK.out; omega) (by assumption) ?_ (by kernel_rfl) (by kernel_rfl)
                  try dsimp only [Cu.pick, Cu.rep, Cu.nth]
                  exact ⟨F, i + 1, by rw [Int.natCast_add]; rfl, ⟨by omega⟩, ⟨HFD.out.1⟩, ⟨HFD.out.2.1⟩, ⟨HFD.out.2.2⟩, ⟨HI10.out.drewN _⟩, ⟨HR10.out.drewN _⟩, ⟨pw_below_drewN HB10.out _⟩⟩
              · obtain ⟨l, hl⟩ : ∃ l, l = ([] : List Int) := ⟨_, rfl⟩
                obtain ⟨kn, hkn⟩ := Ex.eqn_f ([] : List Int) (by decide)
                have hkn : gimbalref0_EqNumbers.f kn l [] = some true := by rw [hl]; exact hkn
                obtain ⟨kb, hkb⟩ := Ex.num_f ([] : List Int) (by decide)
                have hkb : gimballaw0_Numbers.f kb l = some () := by rw [hl]; exact hkb
                have htk : rate_Table_Take.f E xb xn = some (l, 1, E) := by unfold rate_Table_Take.f; rw [if_pos HL.out, if_neg (by unfold Rt.senOk; simp; omega), hl]
                have HTK := Aside0.mk htk
                have HKN := Aside0.mk hkn
                have HKB := Aside0.mk hkb
                clear htk hkn hkb hl
                go_upto_region 46 with (first | (go_at_call 7; with_reducible refine (HWM.out _).mono ?_; rintro e w3 ⟨rfl, nd, rfl⟩)| (go_at_call 11; with_reducible refine (rate_Table_Take.calls g E xb xn _ _ _ w _ ?sI ?sB HTK.out).mono ?_; (case sI => first | exact HI.out | exact HI.out.drewN _); (case sB => first | exact HB.out | exact pw_below_drewN HB.out _); rintro e w5 ⟨vA, rfl, ho5, hi5, hb5, hk5⟩; obtain ⟨AA, cA, rfl⟩ := Kd.R_slice ho5; have HR5 : Aside0 (Ex.IsR w w5 g2 E) := ⟨by first | exact Ex.IsR.keep HR.out HI.out hk5 | exact Ex.IsR.keep (HR.out.drewN _) (HI.out.drewN _) hk5⟩; have HOA := Aside0.mk ho5; clear ho5; have HI5 := Aside0.mk hi5; have HB5 := Aside0.mk hb5; clear hi5 hb5 hk5)| (go_at_call 8; with_reducible refine (gimballaw27_num.calls _ _ _ rfl).mono ?_; rintro e w6 ⟨rfl, nn, rfl⟩)| (go_at_call 21; refine (gimbalref0_EqNumbers.calls kn AA cA l none 0 [] true _ ?q1 ?q2 ?q3 ?q4 HKN.out).mono ?_; (case q1 => first | exact (Kd.R_reads' HOA.out).2.2 | exact (Kd.R_reads' (Kd.R_drewN HOA.out _)).2.2); (case q2 => exact (Kd.R_reads' HOA.out).2.1); (case q3 => exact Kd.C_nil _ _); (case q4 => exact Nat.le_refl _); rintro e w11 ⟨rfl, ne, rfl⟩)| (go_at_call 22; with_reducible refine (gimballaw0_Numbers.calls kb (fun k => some k = (Value.slice AA l.length cA).ownBlock) (.slice AA l.length cA) l w _ ?sB ?sO HKB.out).mono ?_; (case sB => exact pw_below_drewN HB5.out _); (case sO => exact Kd.R_lower (Kd.R_drewN (Kd.R_tight rfl HOA.out) _) (by first | exact HB4.out.size | exact (pw_below_drewN HB4.out _).size | exact HB.out.size | exact (pw_below_drewN HB.out _).size)); rintro e w6 ⟨rfl, hb6, hk6⟩; have HI6 : Aside0 (IsS65 w w6 g E) := ⟨Ex.IsS.kept (HI5.out.drewN _) (Kd.R_drewN HOA.out _) hk6⟩; have HR6 : Aside0 (Ex.IsR w w6 g2 E) := ⟨Ex.IsR.kept (HR5.out.drewN _) (Kd.R_drewN HOA.out _) hk6⟩; have HB6 := Aside0.mk hb6; clear hb6 hk6))
                obtain ⟨F, hF⟩ : ∃ F : Rt.Tb, F = E := ⟨_, rfl⟩
                have hfd : Rt.Own F ∧ Ex.Sen F ∧ F.length ≤ i + 1 := by rw [hF]; exact ⟨HOW.out, HSN.out, Nat.le_succ_of_le HE.out⟩
                have HI8 := HI6; rw [← hF] at HI8
                have HR8 := HR6; rw [← hF] at HR8
                obtain ⟨lF, hlF⟩ : ∃ l, l = F.map (fun x => (⟨x.a, x.b, x.p, x.q⟩ : S29)) := ⟨_, rfl⟩
                have hll : lF.length < 1000000 := by rw [hlF, List.length_map]; have := hfd.2.2; omega
                obtain ⟨ke, hke⟩ := Ex.eqs_f lF hll
                have hall : rate_Table_All.f F = some (lF, F) := by rw [hlF]; exact if_pos (by have := hfd.2.2; omega)
                have hlt : F.length < 1000000 := by have := hfd.2.2; omega
                have HFD := Aside0.mk hfd
                have HLF := Aside0.mk hlF
                have HKE := Aside0.mk hke
                have HALL := Aside0.mk hall
                have HLT := Aside0.mk hlt
                clear hfd hlF hke hall hlt hll hF
                go_wp2_with (first | (go_at_call 16; with_reducible refine (rate_Table_All.calls g F lF F w _ ?sI ?sB HALL.out).mono ?_; (case sI => first | exact HI8.out | exact HI8.out.drewN _); (case sB => first | exact HB6.out | exact pw_below_drewN HB6.out _); rintro e w9 ⟨vA, rfl, hoA, hi9, hb9, hk9⟩; obtain ⟨AA, cA, rfl⟩ := Kd.R_slice hoA; have HR9 : Aside0 (Ex.IsR w w9 g2 F) := ⟨by first | exact Ex.IsR.keep HR8.out HI8.out hk9 | exact Ex.IsR.keep (HR8.out.drewN _) (HI8.out.drewN _) hk9⟩; have HOA := Aside0.mk hoA; clear hoA; have HI9 := Aside0.mk hi9; have HB9 := Aside0.mk hb9; clear hi9 hb9 hk9)| (go_at_call 27; with_reducible refine (Ex.all (w0 := w) (E := F) ?sR ?sB HLT.out).mono ?_; (case sR => first | exact HR9.out | exact HR9.out.drewN _); (case sB => first | exact HB9.out | exact pw_below_drewN HB9.out _); rintro e w10 ⟨vB, rfl, hoB, hbB⟩; rw [← HLF.out] at hoB; obtain ⟨AB, cB, rfl⟩ := Kd.R_slice hoB; have HI10 : Aside0 (IsS65 w w10 g F) := ⟨by first | exact HI9.out.below hbB | exact (HI9.out.drewN _).below hbB⟩; have HR10 : Aside0 (Ex.IsR w w10 g2 F) := ⟨by first | exact HR9.out.below hbB | exact (HR9.out.drewN _).below hbB⟩; have HB10 : Aside0 (Below w.heap.size w w10) := ⟨by first | exact below_step HB9.out hbB | exact below_step (pw_below_drewN HB9.out _) hbB⟩; have HCA : Aside0 (Kd.C k29 w10 AA lF.length lF ∧ lF.length ≤ cA) := ⟨by first | exact ⟨(Kd.R_reads' (Kd.R_below HOA.out hbB)).2.2, (Kd.R_reads' HOA.out).2.1⟩ | exact ⟨(Kd.R_reads' (Kd.R_below (Kd.R_drewN HOA.out _) hbB)).2.2, (Kd.R_reads' HOA.out).2.1⟩⟩; have HCB := Aside0.mk hoB; clear hoB hbB HOA)| (go_at_call 26; refine (gimbalref0_EqSubs.calls ke AA cA lF AB cB lF true _ ?q1 ?q2 ?q3 ?q4 HKE.out).mono ?_; (case q1 => exact HCA.out.1); (case q2 => exact HCA.out.2); (case q3 => exact (Kd.R_reads' HCB.out).2.2); (case q4 => exact (Kd.R_reads' HCB.out).2.1); rintro e w11 ⟨rfl, ne, rfl⟩))
                refine Cu.handed (60 - (i + 1)) (by have := HK.out; omega) (by assumption) ?_ (by kernel_rfl) (by kernel_rfl)
                try dsimp only [Cu.pick, Cu.rep, Cu.nth]
                exact ⟨F, i + 1, by rw [Int.natCast_add]; rfl, ⟨by omega⟩, ⟨HFD.out.1⟩, ⟨HFD.out.2.1⟩, ⟨HFD.out.2.2⟩, ⟨HI10.out.drewN _⟩, ⟨HR10.out.drewN _⟩, ⟨pw_below_drewN HB10.out _⟩⟩
            · by_cases hm6 : m = 6
              · subst hm6
                have HBS : Aside0 (w.heap.size ≤ w1.heap.size) := ⟨HB.out.size⟩
                by_cases p1 : 1 ≤ xb
                · by_cases p2 : xb ≤ 16
                  · cases p3 : Rt.timeOk xn with
                    | true =>
                      by_cases p4 : xb ≤ 15
                      · obtain ⟨l, hl⟩ : ∃ l, l = Rt.takeL E xb xn := ⟨_, rfl⟩
                        have hln : l.length < 1000000 := by rw [hl]; have := Rt.takeL_len E xb xn; have := HL.out; omega
                        obtain ⟨kn, hkn⟩ := Ex.eqn_f l hln
                        obtain ⟨kb, hkb⟩ := Ex.num_f l hln
                        have htk : rate_Table_Take.f E xb xn = some (l, 0, Rt.takeE E xb xn) := by unfold rate_Table_Take.f; rw [if_pos HL.out, if_pos (by rw [p3]; unfold Rt.senOk; simp; omega), hl]
                        have HP4 := Aside0.mk p4
                        have htm : gimbalref0_Time.f xn = some true := by rw [Ex.time_f, p3]
                        have HTM := Aside0.mk htm
                        have HTK := Aside0.mk htk
                        have HKN := Aside0.mk hkn
                        have HKB := Aside0.mk hkb
                        have HLL := Aside0.mk hl
                        clear htm htk hkn hkb hl hln p3 p4
                        go_upto_region 46 with (first | (go_at_call 7; with_reducible refine (HWM.out _).mono ?_; rintro e w3 ⟨rfl, nd, rfl⟩)| (go_at_call 19; with_reducible refine (gimbalref0_Time.calls xn _ _ HTM.out).mono ?_; rintro e w2 ⟨rfl, nt, rfl⟩)| (go_at_call 20; with_reducible refine (Ex.take (w0 := w) (E := E) ?sR ?sB xb xn HP4.out HOW.out HL.out).mono ?_; (case sR => first | exact HR.out | exact HR.out.drewN _); (case sB => first | exact HB.out | exact pw_below_drewN HB.out _); rintro e w4 ⟨vW, v2, rfl, hoW, hr4, hb4, hm4⟩; rw [← HLL.out] at hoW; obtain ⟨AW, cW, rfl⟩ := Kd.R_slice hoW; have HI4 : Aside0 (IsS65 w w4 g E) := ⟨by first | exact Ex.IsS.rmov HI.out HR.out hm4 | exact Ex.IsS.rmov (HI.out.drewN _) (HR.out.drewN _) hm4⟩; have BK4 : Aside0 (w4.heap[bx]? = some (.cells #[.int .i64 xd, .int .i64 xa, .int .i64 xb, .int .i64 xp, .int .i64 xq, .int .i64 xn] 31 (0, 0))) := ⟨by first | exact Ex.rbox hm4 HR.out BK.out | exact Ex.rbox hm4 (HR.out.drewN _) (Ex.bkd BK.out _)⟩; obtain ⟨z0, z1, z2, z3, z4, z5⟩ := Ex.c6 BK4.out; have HOW4 := Aside0.mk hoW; clear hoW; have HR4 := Aside0.mk hr4; have HB4 := Aside0.mk hb4; clear hr4 hb4 hm4)| (go_at_call 11; with_reducible refine (rate_Table_Take.calls g E xb xn _ _ _ w _ ?sI ?sB HTK.out).mono ?_; (case sI => first | exact HI4.out | exact HI4.out.drewN _); (case sB => first | exact HB4.out | exact pw_below_drewN HB4.out _); rintro e w5 ⟨vA, rfl, ho5, hi5, hb5, hk5⟩; obtain ⟨AA, cA, rfl⟩ := Kd.R_slice ho5; have HOW5 : Aside0 (Kd.R (Kd.int .i64) 3 w5 _ _ (.slice AW l.length cW) l) := ⟨by first | exact Ex.rows_keep HOW4.out HI4.out hk5 (by decide) | exact Ex.rows_keep (Kd.R_drewN HOW4.out _) (HI4.out.drewN _) hk5 (by decide)⟩; have HR5 : Aside0 (Ex.IsR w w5 g2 (Rt.takeE E xb xn)) := ⟨by first | exact Ex.IsR.keep HR4.out HI4.out hk5 | exact Ex.IsR.keep (HR4.out.drewN _) (HI4.out.drewN _) hk5⟩; have HOA := Aside0.mk ho5; clear ho5; have HI5 := Aside0.mk hi5; have HB5 := Aside0.mk hb5; clear hi5 hb5 hk5)| (go_at_call 8; with_reducible refine (gimballaw27_num.calls _ _ _ rfl).mono ?_; rintro e w6 ⟨rfl, nn, rfl⟩)| (go_at_call 21; refine (gimbalref0_EqNumbers.calls kn AA cA l AW cW l true _ ?q1 ?q2 ?q3 ?q4 HKN.out).mono ?_; (case q1 => first | exact (Kd.R_reads' HOA.out).2.2 | exact (Kd.R_reads' (Kd.R_drewN HOA.out _)).2.2); (case q2 => exact (Kd.R_reads' HOA.out).2.1); (case q3 => first | exact (Kd.R_reads' HOW5.out).2.2 | exact (Kd.R_reads' (Kd.R_drewN HOW5.out _)).2.2); (case q4 => exact (Kd.R_reads' HOW5.out).2.1); rintro e w11 ⟨rfl, ne, rfl⟩)| (go_at_call 22; with_reducible refine (gimballaw0_Numbers.calls kb (fun k => some k = (Value.slice AA l.length cA).ownBlock) (.slice AA l.length cA) l w _ ?sB ?sO HKB.out).mono ?_; (case sB => exact pw_below_drewN HB5.out _); (case sO => exact Kd.R_lower (Kd.R_drewN (Kd.R_tight rfl HOA.out) _) (by first | exact HB4.out.size | exact (pw_below_drewN HB4.out _).size | exact HB.out.size | exact (pw_below_drewN HB.out _).size)); rintro e w6 ⟨rfl, hb6, hk6⟩; have HI6 : Aside0 (IsS65 w w6 g (Rt.takeE E xb xn)) := ⟨Ex.IsS.kept (HI5.out.drewN _) (Kd.R_drewN HOA.out _) hk6⟩; have HR6 : Aside0 (Ex.IsR w w6 g2 (Rt.takeE E xb xn)) := ⟨Ex.IsR.kept (HR5.out.drewN _) (Kd.R_drewN HOA.out _) hk6⟩; have HB6 := Aside0.mk hb6; clear hb6 hk6))
                        obtain ⟨F, hF⟩ : ∃ F : Rt.Tb, F = Rt.takeE E xb xn := ⟨_, rfl⟩
                        have hfd : Rt.Own F ∧ Ex.Sen F ∧ F.length ≤ i + 1 := by rw [hF]; exact ⟨Ex.Own.take HOW.out _ _, HSN.out.take _ _, by unfold Rt.takeE; rw [List.length_map]; exact Nat.le_succ_of_le HE.out⟩
                        have HI8 := HI6; rw [← hF] at HI8
                        have HR8 := HR6; rw [← hF] at HR8
                        obtain ⟨lF, hlF⟩ : ∃ l, l = F.map (fun x => (⟨x.a, x.b, x.p, x.q⟩ : S29)) := ⟨_, rfl⟩
                        have hll : lF.length < 1000000 := by rw [hlF, List.length_map]; have := hfd.2.2; omega
                        obtain ⟨ke, hke⟩ := Ex.eqs_f lF hll
                        have hall : rate_Table_All.f F = some (lF, F) := by rw [hlF]; exact if_pos (by have := hfd.2.2; omega)
                        have hlt : F.length < 1000000 := by have := hfd.2.2; omega
                        have HFD := Aside0.mk hfd
                        have HLF := Aside0.mk hlF
                        have HKE := Aside0.mk hke
                        have HALL := Aside0.mk hall
                        have HLT := Aside0.mk hlt
                        clear hfd hlF hke hall hlt hll hF
                        go_wp2_with (first | (go_at_call 16; with_reducible refine (rate_Table_All.calls g F lF F w _ ?sI ?sB HALL.out).mono ?_; (case sI => first | exact HI8.out | exact HI8.out.drewN _); (case sB => first | exact HB6.out | exact pw_below_drewN HB6.out _); rintro e w9 ⟨vA, rfl, hoA, hi9, hb9, hk9⟩; obtain ⟨AA, cA, rfl⟩ := Kd.R_slice hoA; have HR9 : Aside0 (Ex.IsR w w9 g2 F) := ⟨by first | exact Ex.IsR.keep HR8.out HI8.out hk9 | exact Ex.IsR.keep (HR8.out.drewN _) (HI8.out.drewN _) hk9⟩; have HOA := Aside0.mk hoA; clear hoA; have HI9 := Aside0.mk hi9; have HB9 := Aside0.mk hb9; clear hi9 hb9 hk9)| (go_at_call 27; with_reducible refine (Ex.all (w0 := w) (E := F) ?sR ?sB HLT.out).mono ?_; (case sR => first | exact HR9.out | exact HR9.out.drewN _); (case sB => first | exact HB9.out | exact pw_below_drewN HB9.out _); rintro e w10 ⟨vB, rfl, hoB, hbB⟩; rw [← HLF.out] at hoB; obtain ⟨AB, cB, rfl⟩ := Kd.R_slice hoB; have HI10 : Aside0 (IsS65 w w10 g F) := ⟨by first | exact HI9.out.below hbB | exact (HI9.out.drewN _).below hbB⟩; have HR10 : Aside0 (Ex.IsR w w10 g2 F) := ⟨by first | exact HR9.out.below hbB | exact (HR9.out.drewN _).below hbB⟩; have HB10 : Aside0 (Below w.heap.size w w10) := ⟨by first | exact below_step HB9.out hbB | exact below_step (pw_below_drewN HB9.out _) hbB⟩; have HCA : Aside0 (Kd.C k29 w10 AA lF.length lF ∧ lF.length ≤ cA) := ⟨by first | exact ⟨(Kd.R_reads' (Kd.R_below HOA.out hbB)).2.2, (Kd.R_reads' HOA.out).2.1⟩ | exact ⟨(Kd.R_reads' (Kd.R_below (Kd.R_drewN HOA.out _) hbB)).2.2, (Kd.R_reads' HOA.out).2.1⟩⟩; have HCB := Aside0.mk hoB; clear hoB hbB HOA)| (go_at_call 26; refine (gimbalref0_EqSubs.calls ke AA cA lF AB cB lF true _ ?q1 ?q2 ?q3 ?q4 HKE.out).mono ?_; (case q1 => exact HCA.out.1); (case q2 => exact HCA.out.2); (case q3 => exact (Kd.R_reads' HCB.out).2.2); (case q4 => exact (Kd.R_reads' HCB.out).2.1); rintro e w11 ⟨rfl, ne, rfl⟩))
                        refine Cu.handed (60 - (i + 1)) (by have := HK.out; omega) (by assumption) ?_ (by kernel_rfl) (by kernel_rfl)
                        try dsimp only [Cu.pick, Cu.rep, Cu.nth]
                        exact ⟨F, i + 1, by rw [Int.natCast_add]; rfl, ⟨by omega⟩, ⟨HFD.out.1⟩, ⟨HFD.out.2.1⟩, ⟨HFD.out.2.2⟩, ⟨HI10.out.drewN _⟩, ⟨HR10.out.drewN _⟩, ⟨pw_below_drewN HB10.out _⟩⟩
                      · obtain ⟨l, hl⟩ : ∃ l, l = Rt.takeL E xb xn := ⟨_, rfl⟩
                        have hln : l.length < 1000000 := by rw [hl]; have := Rt.takeL_len E xb xn; have := HL.out; omega
                        obtain ⟨kn, hkn⟩ := Ex.eqn_f l hln
                        obtain ⟨kb, hkb⟩ := Ex.num_f l hln
                        obtain rfl : xb = 16 := by omega
                        obtain ⟨hn1, hn2⟩ := HSN.out.none xn
                        have htk : rate_Table_Take.f E 16 xn = some (l, 0, Rt.takeE E 16 xn) := by unfold rate_Table_Take.f; rw [if_pos HL.out, if_pos (by rw [p3]; decide), hl]
                        have hl0 : l = [] := hl.trans hn1
                        have htm : gimbalref0_Time.f xn = some true := by rw [Ex.time_f, p3]
                        have HTM := Aside0.mk htm
                        have HTK := Aside0.mk htk
                        have HKN := Aside0.mk hkn
                        have HKB := Aside0.mk hkb
                        have HLL := Aside0.mk hl
                        have HL0 := Aside0.mk hl0
                        have HN2 := Aside0.mk hn2
                        clear hl0 hn1 hn2
                        clear htm htk hkn hkb hl hln p3 p4
                        go_upto_region 46 with (first | (go_at_call 7; with_reducible refine (HWM.out _).mono ?_; rintro e w3 ⟨rfl, nd, rfl⟩)| (go_at_call 19; with_reducible refine (gimbalref0_Time.calls xn _ _ HTM.out).mono ?_; rintro e w2 ⟨rfl, nt, rfl⟩)| (go_at_call 20; with_reducible refine (Ex.take16 (w0 := w) (E := E) (g := g2) ?sR xn HL.out).mono ?_; (case sR => first | exact HR.out | exact HR.out.drewN _); rintro e w4 ⟨rfl, rfl⟩)| (go_at_call 11; with_reducible refine (rate_Table_Take.calls g E 16 xn _ _ _ w _ ?sI ?sB HTK.out).mono ?_; (case sI => first | exact HI.out | exact HI.out.drewN _); (case sB => first | exact HB.out | exact pw_below_drewN HB.out _); rintro e w5 ⟨vA, rfl, ho5, hi5, hb5, hk5⟩; obtain ⟨AA, cA, rfl⟩ := Kd.R_slice ho5; rw [HN2.out] at hi5; have HR5 : Aside0 (Ex.IsR w w5 g2 E) := ⟨by first | exact Ex.IsR.keep HR.out HI.out hk5 | exact Ex.IsR.keep (HR.out.drewN _) (HI.out.drewN _) hk5⟩; have HOA := Aside0.mk ho5; clear ho5; have HI5 := Aside0.mk hi5; have HB5 := Aside0.mk hb5; clear hi5 hb5 hk5)| (go_at_call 8; with_reducible refine (gimballaw27_num.calls _ _ _ rfl).mono ?_; rintro e w6 ⟨rfl, nn, rfl⟩)| (go_at_call 21; refine (gimbalref0_EqNumbers.calls kn AA cA l none 0 [] true _ ?q1 ?q2 ?q3 ?q4 (by have := HKN.out; have h0 := HL0.out; rw [h0] at this ⊢; exact this)).mono ?_; (case q1 => first | exact (Kd.R_reads' HOA.out).2.2 | exact (Kd.R_reads' (Kd.R_drewN HOA.out _)).2.2); (case q2 => exact (Kd.R_reads' HOA.out).2.1); (case q3 => exact Kd.C_nil _ _); (case q4 => exact Nat.le_refl _); rintro e w11 ⟨rfl, ne, rfl⟩)| (go_at_call 22; with_reducible refine (gimballaw0_Numbers.calls kb (fun k => some k = (Value.slice AA l.length cA).ownBlock) (.slice AA l.length cA) l w _ ?sB ?sO HKB.out).mono ?_; (case sB => exact pw_below_drewN HB5.out _); (case sO => exact Kd.R_lower (Kd.R_drewN (Kd.R_tight rfl HOA.out) _) (by first | exact HB4.out.size | exact (pw_below_drewN HB4.out _).size | exact HB.out.size | exact (pw_below_drewN HB.out _).size)); rintro e w6 ⟨rfl, hb6, hk6⟩; have HI6 : Aside0 (IsS65 w w6 g E) := ⟨Ex.IsS.kept (HI5.out.drewN _) (Kd.R_drewN HOA.out _) hk6⟩; have HR6 : Aside0 (Ex.IsR w w6 g2 E) := ⟨Ex.IsR.kept (HR5.out.drewN _) (Kd.R_drewN HOA.out _) hk6⟩; have HB6 := Aside0.mk hb6; clear hb6 hk6))
                        obtain ⟨F, hF⟩ : ∃ F : Rt.Tb, F = E := ⟨_, rfl⟩
                        have hfd : Rt.Own F ∧ Ex.Sen F ∧ F.length ≤ i + 1 := by rw [hF]; exact ⟨HOW.out, HSN.out, Nat.le_succ_of_le HE.out⟩
                        have HI8 := HI6; rw [← hF] at HI8
                        have HR8 := HR6; rw [← hF] at HR8
                        obtain ⟨lF, hlF⟩ : ∃ l, l = F.map (fun x => (⟨x.a, x.b, x.p, x.q⟩ : S29)) := ⟨_, rfl⟩
                        have hll : lF.length < 1000000 := by rw [hlF, List.length_map]; have := hfd.2.2; omega
                        obtain ⟨ke, hke⟩ := Ex.eqs_f lF hll
                        have hall : rate_Table_All.f F = some (lF, F) := by rw [hlF]; exact if_pos (by have := hfd.2.2; omega)
                        have hlt : F.length < 1000000 := by have := hfd.2.2; omega
                        have HFD := Aside0.mk hfd
                        have HLF := Aside0.mk hlF
                        have HKE := Aside0.mk hke
                        have HALL := Aside0.mk hall
                        have HLT := Aside0.mk hlt
                        clear hfd hlF hke hall hlt hll hF
                        go_wp2_with (first | (go_at_call 16; with_reducible refine (rate_Table_All.calls g F lF F w _ ?sI ?sB HALL.out).mono ?_; (case sI => first | exact HI8.out | exact HI8.out.drewN _); (case sB => first | exact HB6.out | exact pw_below_drewN HB6.out _); rintro e w9 ⟨vA, rfl, hoA, hi9, hb9, hk9⟩; obtain ⟨AA, cA, rfl⟩ := Kd.R_slice hoA; have HR9 : Aside0 (Ex.IsR w w9 g2 F) := ⟨by first | exact Ex.IsR.keep HR8.out HI8.out hk9 | exact Ex.IsR.keep (HR8.out.drewN _) (HI8.out.drewN _) hk9⟩; have HOA := Aside0.mk hoA; clear hoA; have HI9 := Aside0.mk hi9; have HB9 := Aside0.mk hb9; clear hi9 hb9 hk9)| (go_at_call 27; with_reducible refine (Ex.all (w0 := w) (E := F) ?sR ?sB HLT.out).mono ?_; (case sR => first | exact HR9.out | exact HR9.out.drewN _); (case sB => first | exact HB9.out | exact pw_below_drewN HB9.out _); rintro e w10 ⟨vB, rfl, hoB, hbB⟩; rw [← HLF.out] at hoB; obtain ⟨AB, cB, rfl⟩ := Kd.R_slice hoB; have HI10 : Aside0 (IsS65 w w10 g F) := ⟨by first | exact HI9.out.below hbB | exact (HI9.out.drewN _).below hbB⟩; have HR10 : Aside0 (Ex.IsR w w10 g2 F) := ⟨by first | exact HR9.out.below hbB | exact (HR9.out.drewN _).below hbB⟩; have HB10 : Aside0 (Below w.heap.size w w10) := ⟨by first | exact below_step HB9.out hbB | exact below_step (pw_below_drewN HB9.out _) hbB⟩; have HCA : Aside0 (Kd.C k29 w10 AA lF.length lF ∧ lF.length ≤ cA) := ⟨by first | exact ⟨(Kd.R_reads' (Kd.R_below HOA.out hbB)).2.2, (Kd.R_reads' HOA.out).2.1⟩ | exact ⟨(Kd.R_reads' (Kd.R_below (Kd.R_drewN HOA.out _) hbB)).2.2, (Kd.R_reads' HOA.out).2.1⟩⟩; have HCB := Aside0.mk hoB; clear hoB hbB HOA)| (go_at_call 26; refine (gimbalref0_EqSubs.calls ke AA cA lF AB cB lF true _ ?q1 ?q2 ?q3 ?q4 HKE.out).mono ?_; (case q1 => exact HCA.out.1); (case q2 => exact HCA.out.2); (case q3 => exact (Kd.R_reads' HCB.out).2.2); (case q4 => exact (Kd.R_reads' HCB.out).2.1); rintro e w11 ⟨rfl, ne, rfl⟩))
                        refine Cu.handed (60 - (i + 1)) (by have := HK.out; omega) (by assumption) ?_ (by kernel_rfl) (by kernel_rfl)
                        try dsimp only [Cu.pick, Cu.rep, Cu.nth]
                        exact ⟨F, i + 1, by rw [Int.natCast_add]; rfl, ⟨by omega⟩, ⟨HFD.out.1⟩, ⟨HFD.out.2.1⟩, ⟨HFD.out.2.2⟩, ⟨HI10.out.drewN _⟩, ⟨HR10.out.drewN _⟩, ⟨pw_below_drewN HB10.out _⟩⟩
                    | false =>
                      obtain ⟨l, hl⟩ : ∃ l, l = ([] : List Int) := ⟨_, rfl⟩
                      obtain ⟨kn, hkn⟩ := Ex.eqn_f ([] : List Int) (by decide)
                      have hkn : gimbalref0_EqNumbers.f kn l [] = some true := by rw [hl]; exact hkn
                      obtain ⟨kb, hkb⟩ := Ex.num_f ([] : List Int) (by decide)
                      have hkb : gimballaw0_Numbers.f kb l = some () := by rw [hl]; exact hkb
                      have htk : rate_Table_Take.f E xb xn = some (l, 1, E) := by unfold rate_Table_Take.f; rw [if_pos HL.out, if_neg (by rw [p3]; simp), hl]
                      have htm : gimbalref0_Time.f xn = some false := by rw [Ex.time_f, p3]
                      have HTM := Aside0.mk htm
                      clear htm p3
                      have HTK := Aside0.mk htk
                      have HKN := Aside0.mk hkn
                      have HKB := Aside0.mk hkb
                      clear htk hkn hkb hl
                      go_upto_region 46 with (first | (go_at_call 7; with_reducible refine (HWM.out _).mono ?_; rintro e w3 ⟨rfl, nd, rfl⟩)| (go_at_call 19; with_reducible refine (gimbalref0_Time.calls xn _ _ HTM.out).mono ?_; rintro e w2 ⟨rfl, nt, rfl⟩)| (go_at_call 11; with_reducible refine (rate_Table_Take.calls g E xb xn _ _ _ w _ ?sI ?sB HTK.out).mono ?_; (case sI => first | exact HI.out | exact HI.out.drewN _); (case sB => first | exact HB.out | exact pw_below_drewN HB.out _); rintro e w5 ⟨vA, rfl, ho5, hi5, hb5, hk5⟩; obtain ⟨AA, cA, rfl⟩ := Kd.R_slice ho5; have HR5 : Aside0 (Ex.IsR w w5 g2 E) := ⟨by first | exact Ex.IsR.keep HR.out HI.out hk5 | exact Ex.IsR.keep (HR.out.drewN _) (HI.out.drewN _) hk5⟩; have HOA := Aside0.mk ho5; clear ho5; have HI5 := Aside0.mk hi5; have HB5 := Aside0.mk hb5; clear hi5 hb5 hk5)| (go_at_call 8; with_reducible refine (gimballaw27_num.calls _ _ _ rfl).mono ?_; rintro e w6 ⟨rfl, nn, rfl⟩)| (go_at_call 21; refine (gimbalref0_EqNumbers.calls kn AA cA l none 0 [] true _ ?q1 ?q2 ?q3 ?q4 HKN.out).mono ?_; (case q1 => first | exact (Kd.R_reads' HOA.out).2.2 | exact (Kd.R_reads' (Kd.R_drewN HOA.out _)).2.2); (case q2 => exact (Kd.R_reads' HOA.out).2.1); (case q3 => exact Kd.C_nil _ _); (case q4 => exact Nat.le_refl _); rintro e w11 ⟨rfl, ne, rfl⟩)| (go_at_call 22; with_reducible refine (gimballaw0_Numbers.calls kb (fun k => some k = (Value.slice AA l.length cA).ownBlock) (.slice AA l.length cA) l w _ ?sB ?sO HKB.out).mono ?_; (case sB => exact pw_below_drewN HB5.out _); (case sO => exact Kd.R_lower (Kd.R_drewN (Kd.R_tight rfl HOA.out) _) (by first | exact HB4.out.size | exact (pw_below_drewN HB4.out _).size | exact HB.out.size | exact (pw_below_drewN HB.out _).size)); rintro e w6 ⟨rfl, hb6, hk6⟩; have HI6 : Aside0 (IsS65 w w6 g E) := ⟨Ex.IsS.kept (HI5.out.drewN _) (Kd.R_drewN HOA.out _) hk6⟩; have HR6 : Aside0 (Ex.IsR w w6 g2 E) := ⟨Ex.IsR.kept (HR5.out.drewN _) (Kd.R_drewN HOA.out _) hk6⟩; have HB6 := Aside0.mk hb6; clear hb6 hk6))
                      obtain ⟨F, hF⟩ : ∃ F : Rt.Tb, F = E := ⟨_, rfl⟩
                      have hfd : Rt.Own F ∧ Ex.Sen F ∧ F.length ≤ i + 1 := by rw [hF]; exact ⟨HOW.out, HSN.out, Nat.le_succ_of_le HE.out⟩
                      have HI8 := HI6; rw [← hF] at HI8
                      have HR8 := HR6; rw [← hF] at HR8
                      obtain ⟨lF, hlF⟩ : ∃ l, l = F.map (fun x => (⟨x.a, x.b, x.p, x.q⟩ : S29)) := ⟨_, rfl⟩
                      have hll : lF.length < 1000000 := by rw [hlF, List.length_map]; have := hfd.2.2; omega
                      obtain ⟨ke, hke⟩ := Ex.eqs_f lF hll
                      have hall : rate_Table_All.f F = some (lF, F) := by rw [hlF]; exact if_pos (by have := hfd.2.2; omega)
                      have hlt : F.length < 1000000 := by have := hfd.2.2; omega
                      have HFD := Aside0.mk hfd
                      have HLF := Aside0.mk hlF
                      have HKE := Aside0.mk hke
                      have HALL := Aside0.mk hall
                      have HLT := Aside0.mk hlt
                      clear hfd hlF hke hall hlt hll hF
                      go_wp2_with (first | (go_at_call 16; with_reducible refine (rate_Table_All.calls g F lF F w _ ?sI ?sB HALL.out).mono ?_; (case sI => first | exact HI8.out | exact HI8.out.drewN _); (case sB => first | exact HB6.out | exact pw_below_drewN HB6.out _); rintro e w9 ⟨vA, rfl, hoA, hi9, hb9, hk9⟩; obtain ⟨AA, cA, rfl⟩ := Kd.R_slice hoA; have HR9 : Aside0 (Ex.IsR w w9 g2 F) := ⟨by first | exact Ex.IsR.keep HR8.out HI8.out hk9 | exact Ex.IsR.keep (HR8.out.drewN _) (HI8.out.drewN _) hk9⟩; have HOA := Aside0.mk hoA; clear hoA; have HI9 := Aside0.mk hi9; have HB9 := Aside0.mk hb9; clear hi9 hb9 hk9)| (go_at_call 27; with_reducible refine (Ex.all (w0 := w) (E := F) ?sR ?sB HLT.out).mono ?_; (case sR => first | exact HR9.out | exact HR9.out.drewN _); (case sB => first | exact HB9.out | exact pw_below_drewN HB9.out _); rintro e w10 ⟨vB, rfl, hoB, hbB⟩; rw [← HLF.out] at hoB; obtain ⟨AB, cB, rfl⟩ := Kd.R_slice hoB; have HI10 : Aside0 (IsS65 w w10 g F) := ⟨by first | exact HI9.out.below hbB | exact (HI9.out.drewN _).below hbB⟩; have HR10 : Aside0 (Ex.IsR w w10 g2 F) := ⟨by first | exact HR9.out.below hbB | exact (HR9.out.drewN _).below hbB⟩; have HB10 : Aside0 (Below w.heap.size w w10) := ⟨by first | exact below_step HB9.out hbB | exact below_step (pw_below_drewN HB9.out _) hbB⟩; have HCA : Aside0 (Kd.C k29 w10 AA lF.length lF ∧ lF.length ≤ cA) := ⟨by first | exact ⟨(Kd.R_reads' (Kd.R_below HOA.out hbB)).2.2, (Kd.R_reads' HOA.out).2.1⟩ | exact ⟨(Kd.R_reads' (Kd.R_below (Kd.R_drewN HOA.out _) hbB)).2.2, (Kd.R_reads' HOA.out).2.1⟩⟩; have HCB := Aside0.mk hoB; clear hoB hbB HOA)| (go_at_call 26; refine (gimbalref0_EqSubs.calls ke AA cA lF AB cB lF true _ ?q1 ?q2 ?q3 ?q4 HKE.out).mono ?_; (case q1 => exact HCA.out.1); (case q2 => exact HCA.out.2); (case q3 => exact (Kd.R_reads' HCB.out).2.2); (case q4 => exact (Kd.R_reads' HCB.out).2.1); rintro e w11 ⟨rfl, ne, rfl⟩))
                      refine Cu.handed (60 - (i + 1)) (by have := HK.out; omega) (by assumption) ?_ (by kernel_rfl) (by kernel_rfl)
                      try dsimp only [Cu.pick, Cu.rep, Cu.nth]
                      exact ⟨F, i + 1, by rw [Int.natCast_add]; rfl, ⟨by omega⟩, ⟨HFD.out.1⟩, ⟨HFD.out.2.1⟩, ⟨HFD.out.2.2⟩, ⟨HI10.out.drewN _⟩, ⟨HR10.out.drewN _⟩, ⟨pw_below_drewN HB10.out _⟩⟩
                  · obtain ⟨l, hl⟩ : ∃ l, l = ([] : List Int) := ⟨_, rfl⟩
                    obtain ⟨kn, hkn⟩ := Ex.eqn_f ([] : List Int) (by decide)
                    have hkn : gimbalref0_EqNumbers.f kn l [] = some true := by rw [hl]; exact hkn
                    obtain ⟨kb, hkb⟩ := Ex.num_f ([] : List Int) (by decide)
                    have hkb : gimballaw0_Numbers.f kb l = some () := by rw [hl]; exact hkb
                    have htk : rate_Table_Take.f E xb xn = some (l, 1, E) := by unfold rate_Table_Take.f; rw [if_pos HL.out, if_neg (by unfold Rt.senOk; simp; omega), hl]
                    have HTK := Aside0.mk htk
                    have HKN := Aside0.mk hkn
                    have HKB := Aside0.mk hkb
                    clear htk hkn hkb hl
                    go_upto_region 46 with (first | (go_at_call 7; with_reducible refine (HWM.out _).mono ?_; rintro e w3 ⟨rfl, nd, rfl⟩)| (go_at_call 11; with_reducible refine (rate_Table_Take.calls g E xb xn _ _ _ w _ ?sI ?sB HTK.out).mono ?_; (case sI => first | exact HI.out | exact HI.out.drewN _); (case sB => first | exact HB.out | exact pw_below_drewN HB.out _); rintro e w5 ⟨vA, rfl, ho5, hi5, hb5, hk5⟩; obtain ⟨AA, cA, rfl⟩ := Kd.R_slice ho5; have HR5 : Aside0 (Ex.IsR w w5 g2 E) := ⟨by first | exact Ex.IsR.keep HR.out HI.out hk5 | exact Ex.IsR.keep (HR.out.drewN _) (HI.out.drewN _) hk5⟩; have HOA := Aside0.mk ho5; clear ho5; have HI5 := Aside0.mk hi5; have HB5 := Aside0.mk hb5; clear hi5 hb5 hk5)| (go_at_call 8; with_reducible refine (gimballaw27_num.calls _ _ _ rfl).mono ?_; rintro e w6 ⟨rfl, nn, rfl⟩)| (go_at_call 21; refine (gimbalref0_EqNumbers.calls kn AA cA l none 0 [] true _ ?q1 ?q2 ?q3 ?q4 HKN.out).mono ?_; (case q1 => first | exact (Kd.R_reads' HOA.out).2.2 | exact (Kd.R_reads' (Kd.R_drewN HOA.out _)).2.2); (case q2 => exact (Kd.R_reads' HOA.out).2.1); (case q3 => exact Kd.C_nil _ _); (case q4 => exact Nat.le_refl _); rintro e w11 ⟨rfl, ne, rfl⟩)| (go_at_call 22; with_reducible refine (gimballaw0_Numbers.calls kb (fun k => some k = (Value.slice AA l.length cA).ownBlock) (.slice AA l.length cA) l w _ ?sB ?sO HKB.out).mono ?_; (case sB => exact pw_below_drewN HB5.out _); (case sO => exact Kd.R_lower (Kd.R_drewN (Kd.R_tight rfl HOA.out) _) (by first | exact HB4.out.size | exact (pw_below_drewN HB4.out _).size | exact HB.out.size | exact (pw_below_drewN HB.out _).size)); rintro e w6 ⟨rfl, hb6, hk6⟩; have HI6 : Aside0 (IsS65 w w6 g E) := ⟨Ex.IsS.kept (HI5.out.drewN _) (Kd.R_drewN HOA.out _) hk6⟩; have HR6 : Aside0 (Ex.IsR w w6 g2 E) := ⟨Ex.IsR.kept (HR5.out.drewN _) (Kd.R_drewN HOA.out _) hk6⟩; have HB6 := Aside0.mk hb6; clear hb6 hk6))
                    obtain ⟨F, hF⟩ : ∃ F : Rt.Tb, F = E := ⟨_, rfl⟩
                    have hfd : Rt.Own F ∧ Ex.Sen F ∧ F.length ≤ i + 1 := by rw [hF]; exact ⟨HOW.out, HSN.out, Nat.le_succ_of_le HE.out⟩
                    have HI8 := HI6; rw [← hF] at HI8
                    have HR8 := HR6; rw [← hF] at HR8
                    obtain ⟨lF, hlF⟩ : ∃ l, l = F.map (fun x => (⟨x.a, x.b, x.p, x.q⟩ : S29)) := ⟨_, rfl⟩
                    have hll : lF.length < 1000000 := by rw [hlF, List.length_map]; have := hfd.2.2; omega
                    obtain ⟨ke, hke⟩ := Ex.eqs_f lF hll
                    have hall : rate_Table_All.f F = some (lF, F) := by rw [hlF]; exact if_pos (by have := hfd.2.2; omega)
                    have hlt : F.length < 1000000 := by have := hfd.2.2; omega
                    have HFD := Aside0.mk hfd
                    have HLF := Aside0.mk hlF
                    have HKE := Aside0.mk hke
                    have HALL := Aside0.mk hall
                    have HLT := Aside0.mk hlt
                    clear hfd hlF hke hall hlt hll hF
                    go_wp2_with (first | (go_at_call 16; with_reducible refine (rate_Table_All.calls g F lF F w _ ?sI ?sB HALL.out).mono ?_; (case sI => first | exact HI8.out | exact HI8.out.drewN _); (case sB => first | exact HB6.out | exact pw_below_drewN HB6.out _); rintro e w9 ⟨vA, rfl, hoA, hi9, hb9, hk9⟩; obtain ⟨AA, cA, rfl⟩ := Kd.R_slice hoA; have HR9 : Aside0 (Ex.IsR w w9 g2 F) := ⟨by first | exact Ex.IsR.keep HR8.out HI8.out hk9 | exact Ex.IsR.keep (HR8.out.drewN _) (HI8.out.drewN _) hk9⟩; have HOA := Aside0.mk hoA; clear hoA; have HI9 := Aside0.mk hi9; have HB9 := Aside0.mk hb9; clear hi9 hb9 hk9)| (go_at_call 27; with_reducible refine (Ex.all (w0 := w) (E := F) ?sR ?sB HLT.out).mono ?_; (case sR => first | exact HR9.out | exact HR9.out.drewN _); (case sB => first | exact HB9.out | exact pw_below_drewN HB9.out _); rintro e w10 ⟨vB, rfl, hoB, hbB⟩; rw [← HLF.out] at hoB; obtain ⟨AB, cB, rfl⟩ := Kd.R_slice hoB; have HI10 : Aside0 (IsS65 w w10 g F) := ⟨by first | exact HI9.out.below hbB | exact (HI9.out.drewN _).below hbB⟩; have HR10 : Aside0 (Ex.IsR w w10 g2 F) := ⟨by first | exact HR9.out.below hbB | exact (HR9.out.drewN _).below hbB⟩; have HB10 : Aside0 (Below w.heap.size w w10) := ⟨by first | exact below_step HB9.out hbB | exact below_step (pw_below_drewN HB9.out _) hbB⟩; have HCA : Aside0 (Kd.C k29 w10 AA lF.length lF ∧ lF.length ≤ cA) := ⟨by first | exact ⟨(Kd.R_reads' (Kd.R_below HOA.out hbB)).2.2, (Kd.R_reads' HOA.out).2.1⟩ | exact ⟨(Kd.R_reads' (Kd.R_below (Kd.R_drewN HOA.out _) hbB)).2.2, (Kd.R_reads' HOA.out).2.1⟩⟩; have HCB := Aside0.mk hoB; clear hoB hbB HOA)| (go_at_call 26; refine (gimbalref0_EqSubs.calls ke AA cA lF AB cB lF true _ ?q1 ?q2 ?q3 ?q4 HKE.out).mono ?_; (case q1 => exact HCA.out.1); (case q2 => exact HCA.out.2); (case q3 => exact (Kd.R_reads' HCB.out).2.2); (case q4 => exact (Kd.R_reads' HCB.out).2.1); rintro e w11 ⟨rfl, ne, rfl⟩))
                    refine Cu.handed (60 - (i + 1)) (by have := HK.out; omega) (by assumption) ?_ (by kernel_rfl) (by kernel_rfl)
                    try dsimp only [Cu.pick, Cu.rep, Cu.nth]
                    exact ⟨F, i + 1, by rw [Int.natCast_add]; rfl, ⟨by omega⟩, ⟨HFD.out.1⟩, ⟨HFD.out.2.1⟩, ⟨HFD.out.2.2⟩, ⟨HI10.out.drewN _⟩, ⟨HR10.out.drewN _⟩, ⟨pw_below_drewN HB10.out _⟩⟩
                · obtain ⟨l, hl⟩ : ∃ l, l = ([] : List Int) := ⟨_, rfl⟩
                  obtain ⟨kn, hkn⟩ := Ex.eqn_f ([] : List Int) (by decide)
                  have hkn : gimbalref0_EqNumbers.f kn l [] = some true := by rw [hl]; exact hkn
                  obtain ⟨kb, hkb⟩ := Ex.num_f ([] : List Int) (by decide)
                  have hkb : gimballaw0_Numbers.f kb l = some () := by rw [hl]; exact hkb
                  have htk : rate_Table_Take.f E xb xn = some (l, 1, E) := by unfold rate_Table_Take.f; rw [if_pos HL.out, if_neg (by unfold Rt.senOk; simp; omega), hl]
                  have HTK := Aside0.mk htk
                  have HKN := Aside0.mk hkn
                  have HKB := Aside0.mk hkb
                  clear htk hkn hkb hl
                  go_upto_region 46 with (first | (go_at_call 7; with_reducible refine (HWM.out _).mono ?_; rintro e w3 ⟨rfl, nd, rfl⟩)| (go_at_call 11; with_reducible refine (rate_Table_Take.calls g E xb xn _ _ _ w _ ?sI ?sB HTK.out).mono ?_; (case sI => first | exact HI.out | exact HI.out.drewN _); (case sB => first | exact HB.out | exact pw_below_drewN HB.out _); rintro e w5 ⟨vA, rfl, ho5, hi5, hb5, hk5⟩; obtain ⟨AA, cA, rfl⟩ := Kd.R_slice ho5; have HR5 : Aside0 (Ex.IsR w w5 g2 E) := ⟨by first | exact Ex.IsR.keep HR.out HI.out hk5 | exact Ex.IsR.keep (HR.out.drewN _) (HI.out.drewN _) hk5⟩; have HOA := Aside0.mk ho5; clear ho5; have HI5 := Aside0.mk hi5; have HB5 := Aside0.mk hb5; clear hi5 hb5 hk5)| (go_at_call 8; with_reducible refine (gimballaw27_num.calls _ _ _ rfl).mono ?_; rintro e w6 ⟨rfl, nn, rfl⟩)| (go_at_call 21; refine (gimbalref0_EqNumbers.calls kn AA cA l none 0 [] true _ ?q1 ?q2 ?q3 ?q4 HKN.out).mono ?_; (case q1 => first | exact (Kd.R_reads' HOA.out).2.2 | exact (Kd.R_reads' (Kd.R_drewN HOA.out _)).2.2); (case q2 => exact (Kd.R_reads' HOA.out).2.1); (case q3 => exact Kd.C_nil _ _); (case q4 => exact Nat.le_refl _); rintro e w11 ⟨rfl, ne, rfl⟩)| (go_at_call 22; with_reducible refine (gimballaw0_Numbers.calls kb (fun k => some k = (Value.slice AA l.length cA).ownBlock) (.slice AA l.length cA) l w _ ?sB ?sO HKB.out).mono ?_; (case sB => exact pw_below_drewN HB5.out _); (case sO => exact Kd.R_lower (Kd.R_drewN (Kd.R_tight rfl HOA.out) _) (by first | exact HB4.out.size | exact (pw_below_drewN HB4.out _).size | exact HB.out.size | exact (pw_below_drewN HB.out _).size)); rintro e w6 ⟨rfl, hb6, hk6⟩; have HI6 : Aside0 (IsS65 w w6 g E) := ⟨Ex.IsS.kept (HI5.out.drewN _) (Kd.R_drewN HOA.out _) hk6⟩; have HR6 : Aside0 (Ex.IsR w w6 g2 E) := ⟨Ex.IsR.kept (HR5.out.drewN _) (Kd.R_drewN HOA.out _) hk6⟩; have HB6 := Aside0.mk hb6; clear hb6 hk6))
                  obtain ⟨F, hF⟩ : ∃ F : Rt.Tb, F = E := ⟨_, rfl⟩
                  have hfd : Rt.Own F ∧ Ex.Sen F ∧ F.length ≤ i + 1 := by rw [hF]; exact ⟨HOW.out, HSN.out, Nat.le_succ_of_le HE.out⟩
                  have HI8 := HI6; rw [← hF] at HI8
                  have HR8 := HR6; rw [← hF] at HR8
                  obtain ⟨lF, hlF⟩ : ∃ l, l = F.map (fun x => (⟨x.a, x.b, x.p, x.q⟩ : S29)) := ⟨_, rfl⟩
                  have hll : lF.length < 1000000 := by rw [hlF, List.length_map]; have := hfd.2.2; omega
                  obtain ⟨ke, hke⟩ := Ex.eqs_f lF hll
                  have hall : rate_Table_All.f F = some (lF, F) := by rw [hlF]; exact if_pos (by have := hfd.2.2; omega)
                  have hlt : F.length < 1000000 := by have := hfd.2.2; omega
                  have HFD := Aside0.mk hfd
                  have HLF := Aside0.mk hlF
                  have HKE := Aside0.mk hke
                  have HALL := Aside0.mk hall
                  have HLT := Aside0.mk hlt
                  clear hfd hlF hke hall hlt hll hF
                  go_wp2_with (first | (go_at_call 16; with_reducible refine (rate_Table_All.calls g F lF F w _ ?sI ?sB HALL.out).mono ?_; (case sI => first | exact HI8.out | exact HI8.out.drewN _); (case sB => first | exact HB6.out | exact pw_below_drewN HB6.out _); rintro e w9 ⟨vA, rfl, hoA, hi9, hb9, hk9⟩; obtain ⟨AA, cA, rfl⟩ := Kd.R_slice hoA; have HR9 : Aside0 (Ex.IsR w w9 g2 F) := ⟨by first | exact Ex.IsR.keep HR8.out HI8.out hk9 | exact Ex.IsR.keep (HR8.out.drewN _) (HI8.out.drewN _) hk9⟩; have HOA := Aside0.mk hoA; clear hoA; have HI9 := Aside0.mk hi9; have HB9 := Aside0.mk hb9; clear hi9 hb9 hk9)| (go_at_call 27; with_reducible refine (Ex.all (w0 := w) (E := F) ?sR ?sB HLT.out).mono ?_; (case sR => first | exact HR9.out | exact HR9.out.drewN _); (case sB => first | exact HB9.out | exact pw_below_drewN HB9.out _); rintro e w10 ⟨vB, rfl, hoB, hbB⟩; rw [← HLF.out] at hoB; obtain ⟨AB, cB, rfl⟩ := Kd.R_slice hoB; have HI10 : Aside0 (IsS65 w w10 g F) := ⟨by first | exact HI9.out.below hbB | exact (HI9.out.drewN _).below hbB⟩; have HR10 : Aside0 (Ex.IsR w w10 g2 F) := ⟨by first | exact HR9.out.below hbB | exact (HR9.out.drewN _).below hbB⟩; have HB10 : Aside0 (Below w.heap.size w w10) := ⟨by first | exact below_step HB9.out hbB | exact below_step (pw_below_drewN HB9.out _) hbB⟩; have HCA : Aside0 (Kd.C k29 w10 AA lF.length lF ∧ lF.length ≤ cA) := ⟨by first | exact ⟨(Kd.R_reads' (Kd.R_below HOA.out hbB)).2.2, (Kd.R_reads' HOA.out).2.1⟩ | exact ⟨(Kd.R_reads' (Kd.R_below (Kd.R_drewN HOA.out _) hbB)).2.2, (Kd.R_reads' HOA.out).2.1⟩⟩; have HCB := Aside0.mk hoB; clear hoB hbB HOA)| (go_at_call 26; refine (gimbalref0_EqSubs.calls ke AA cA lF AB cB lF true _ ?q1 ?q2 ?q3 ?q4 HKE.out).mono ?_; (case q1 => exact HCA.out.1); (case q2 => exact HCA.out.2); (case q3 => exact (Kd.R_reads' HCB.out).2.2); (case q4 => exact (Kd.R_reads' HCB.out).2.1); rintro e w11 ⟨rfl, ne, rfl⟩))
                  refine Cu.handed (60 - (i + 1)) (by have := HK.out; omega) (by assumption) ?_ (by kernel_rfl) (by kernel_rfl)
                  try dsimp only [Cu.pick, Cu.rep, Cu.nth]
                  exact ⟨F, i + 1, by rw [Int.natCast_add]; rfl, ⟨by omega⟩, ⟨HFD.out.1⟩, ⟨HFD.out.2.1⟩, ⟨HFD.out.2.2⟩, ⟨HI10.out.drewN _⟩, ⟨HR10.out.drewN _⟩, ⟨pw_below_drewN HB10.out _⟩⟩
              · by_cases hm7 : m = 7
                · subst hm7
                  have HBS : Aside0 (w.heap.size ≤ w1.heap.size) := ⟨HB.out.size⟩
                  by_cases p1 : 1 ≤ xb
                  · by_cases p2 : xb ≤ 16
                    · cases p3 : Rt.timeOk xn with
                      | true =>
                        by_cases p4 : xb ≤ 15
                        · obtain ⟨l, hl⟩ : ∃ l, l = Rt.takeL E xb xn := ⟨_, rfl⟩
                          have hln : l.length < 1000000 := by rw [hl]; have := Rt.takeL_len E xb xn; have := HL.out; omega
                          obtain ⟨kn, hkn⟩ := Ex.eqn_f l hln
                          obtain ⟨kb, hkb⟩ := Ex.num_f l hln
                          have htk : rate_Table_Take.f E xb xn = some (l, 0, Rt.takeE E xb xn) := by unfold rate_Table_Take.f; rw [if_pos HL.out, if_pos (by rw [p3]; unfold Rt.senOk; simp; omega), hl]
                          have HP4 := Aside0.mk p4
                          have htm : gimbalref0_Time.f xn = some true := by rw [Ex.time_f, p3]
                          have HTM := Aside0.mk htm
                          have HTK := Aside0.mk htk
                          have HKN := Aside0.mk hkn
                          have HKB := Aside0.mk hkb
                          have HLL := Aside0.mk hl
                          clear htm htk hkn hkb hl hln p3 p4
                          go_upto_region 46 with (first | (go_at_call 7; with_reducible refine (HWM.out _).mono ?_; rintro e w3 ⟨rfl, nd, rfl⟩)| (go_at_call 19; with_reducible refine (gimbalref0_Time.calls xn _ _ HTM.out).mono ?_; rintro e w2 ⟨rfl, nt, rfl⟩)| (go_at_call 20; with_reducible refine (Ex.take (w0 := w) (E := E) ?sR ?sB xb xn HP4.out HOW.out HL.out).mono ?_; (case sR => first | exact HR.out | exact HR.out.drewN _); (case sB => first | exact HB.out | exact pw_below_drewN HB.out _); rintro e w4 ⟨vW, v2, rfl, hoW, hr4, hb4, hm4⟩; rw [← HLL.out] at hoW; obtain ⟨AW, cW, rfl⟩ := Kd.R_slice hoW; have HI4 : Aside0 (IsS65 w w4 g E) := ⟨by first | exact Ex.IsS.rmov HI.out HR.out hm4 | exact Ex.IsS.rmov (HI.out.drewN _) (HR.out.drewN _) hm4⟩; have BK4 : Aside0 (w4.heap[bx]? = some (.cells #[.int .i64 xd, .int .i64 xa, .int .i64 xb, .int .i64 xp, .int .i64 xq, .int .i64 xn] 31 (0, 0))) := ⟨by first | exact Ex.rbox hm4 HR.out BK.out | exact Ex.rbox hm4 (HR.out.drewN _) (Ex.bkd BK.out _)⟩; obtain ⟨z0, z1, z2, z3, z4, z5⟩ := Ex.c6 BK4.out; have HOW4 := Aside0.mk hoW; clear hoW; have HR4 := Aside0.mk hr4; have HB4 := Aside0.mk hb4; clear hr4 hb4 hm4)| (go_at_call 11; with_reducible refine (rate_Table_Take.calls g E xb xn _ _ _ w _ ?sI ?sB HTK.out).mono ?_; (case sI => first | exact HI4.out | exact HI4.out.drewN _); (case sB => first | exact HB4.out | exact pw_below_drewN HB4.out _); rintro e w5 ⟨vA, rfl, ho5, hi5, hb5, hk5⟩; obtain ⟨AA, cA, rfl⟩ := Kd.R_slice ho5; have HOW5 : Aside0 (Kd.R (Kd.int .i64) 3 w5 _ _ (.slice AW l.length cW) l) := ⟨by first | exact Ex.rows_keep HOW4.out HI4.out hk5 (by decide) | exact Ex.rows_keep (Kd.R_drewN HOW4.out _) (HI4.out.drewN _) hk5 (by decide)⟩; have HR5 : Aside0 (Ex.IsR w w5 g2 (Rt.takeE E xb xn)) := ⟨by first | exact Ex.IsR.keep HR4.out HI4.out hk5 | exact Ex.IsR.keep (HR4.out.drewN _) (HI4.out.drewN _) hk5⟩; have HOA := Aside0.mk ho5; clear ho5; have HI5 := Aside0.mk hi5; have HB5 := Aside0.mk hb5; clear hi5 hb5 hk5)| (go_at_call 8; with_reducible refine (gimballaw27_num.calls _ _ _ rfl).mono ?_; rintro e w6 ⟨rfl, nn, rfl⟩)| (go_at_call 21; refine (gimbalref0_EqNumbers.calls kn AA cA l AW cW l true _ ?q1 ?q2 ?q3 ?q4 HKN.out).mono ?_; (case q1 => first | exact (Kd.R_reads' HOA.out).2.2 | exact (Kd.R_reads' (Kd.R_drewN HOA.out _)).2.2); (case q2 => exact (Kd.R_reads' HOA.out).2.1); (case q3 => first | exact (Kd.R_reads' HOW5.out).2.2 | exact (Kd.R_reads' (Kd.R_drewN HOW5.out _)).2.2); (case q4 => exact (Kd.R_reads' HOW5.out).2.1); rintro e w11 ⟨rfl, ne, rfl⟩)| (go_at_call 22; with_reducible refine (gimballaw0_Numbers.calls kb (fun k => some k = (Value.slice AA l.length cA).ownBlock) (.slice AA l.length cA) l w _ ?sB ?sO HKB.out).mono ?_; (case sB => exact pw_below_drewN HB5.out _); (case sO => exact Kd.R_lower (Kd.R_drewN (Kd.R_tight rfl HOA.out) _) (by first | exact HB4.out.size | exact (pw_below_drewN HB4.out _).size | exact HB.out.size | exact (pw_below_drewN HB.out _).size)); rintro e w6 ⟨rfl, hb6, hk6⟩; have HI6 : Aside0 (IsS65 w w6 g (Rt.takeE E xb xn)) := ⟨Ex.IsS.kept (HI5.out.drewN _) (Kd.R_drewN HOA.out _) hk6⟩; have HR6 : Aside0 (Ex.IsR w w6 g2 (Rt.takeE E xb xn)) := ⟨Ex.IsR.kept (HR5.out.drewN _) (Kd.R_drewN HOA.out _) hk6⟩; have HB6 := Aside0.mk hb6; clear hb6 hk6))
                          obtain ⟨F, hF⟩ : ∃ F : Rt.Tb, F = Rt.takeE E xb xn := ⟨_, rfl⟩
                          have hfd : Rt.Own F ∧ Ex.Sen F ∧ F.length ≤ i + 1 := by rw [hF]; exact ⟨Ex.Own.take HOW.out _ _, HSN.out.take _ _, by unfold Rt.takeE; rw [List.length_map]; exact Nat.le_succ_of_le HE.out⟩
                          have HI8 := HI6; rw [← hF] at HI8
                          have HR8 := HR6; rw [← hF] at HR8
                          obtain ⟨lF, hlF⟩ : ∃ l, l = F.map (fun x => (⟨x.a, x.b, x.p, x.q⟩ : S29)) := ⟨_, rfl⟩
                          have hll : lF.length < 1000000 := by rw [hlF, List.length_map]; have := hfd.2.2; omega
                          obtain ⟨ke, hke⟩ := Ex.eqs_f lF hll
                          have hall : rate_Table_All.f F = some (lF, F) := by rw [hlF]; exact if_pos (by have := hfd.2.2; omega)
                          have hlt : F.length < 1000000 := by have := hfd.2.2; omega
                          have HFD := Aside0.mk hfd
                          have HLF := Aside0.mk hlF
                          have HKE := Aside0.mk hke
                          have HALL := Aside0.mk hall
                          have HLT := Aside0.mk hlt
                          clear hfd hlF hke hall hlt hll hF
                          go_wp2_with (first | (go_at_call 16; with_reducible refine (rate_Table_All.calls g F lF F w _ ?sI ?sB HALL.out).mono ?_; (case sI => first | exact HI8.out | exact HI8.out.drewN _); (case sB => first | exact HB6.out | exact pw_below_drewN HB6.out _); rintro e w9 ⟨vA, rfl, hoA, hi9, hb9, hk9⟩; obtain ⟨AA, cA, rfl⟩ := Kd.R_slice hoA; have HR9 : Aside0 (Ex.IsR w w9 g2 F) := ⟨by first | exact Ex.IsR.keep HR8.out HI8.out hk9 | exact Ex.IsR.keep (HR8.out.drewN _) (HI8.out.drewN _) hk9⟩; have HOA := Aside0.mk hoA; clear hoA; have HI9 := Aside0.mk hi9; have HB9 := Aside0.mk hb9; clear hi9 hb9 hk9)| (go_at_call 27; with_reducible refine (Ex.all (w0 := w) (E := F) ?sR ?sB HLT.out).mono ?_; (case sR => first | exact HR9.out | exact HR9.out.drewN _); (case sB => first | exact HB9.out | exact pw_below_drewN HB9.out _); rintro e w10 ⟨vB, rfl, hoB, hbB⟩; rw [← HLF.out] at hoB; obtain ⟨AB, cB, rfl⟩ := Kd.R_slice hoB; have HI10 : Aside0 (IsS65 w w10 g F) := ⟨by first | exact HI9.out.below hbB | exact (HI9.out.drewN _).below hbB⟩; have HR10 : Aside0 (Ex.IsR w w10 g2 F) := ⟨by first | exact HR9.out.below hbB | exact (HR9.out.drewN _).below hbB⟩; have HB10 : Aside0 (Below w.heap.size w w10) := ⟨by first | exact below_step HB9.out hbB | exact below_step (pw_below_drewN HB9.out _) hbB⟩; have HCA : Aside0 (Kd.C k29 w10 AA lF.length lF ∧ lF.length ≤ cA) := ⟨by first | exact ⟨(Kd.R_reads' (Kd.R_below HOA.out hbB)).2.2, (Kd.R_reads' HOA.out).2.1⟩ | exact ⟨(Kd.R_reads' (Kd.R_below (Kd.R_drewN HOA.out _) hbB)).2.2, (Kd.R_reads' HOA.out).2.1⟩⟩; have HCB := Aside0.mk hoB; clear hoB hbB HOA)| (go_at_call 26; refine (gimbalref0_EqSubs.calls ke AA cA lF AB cB lF true _ ?q1 ?q2 ?q3 ?q4 HKE.out).mono ?_; (case q1 => exact HCA.out.1); (case q2 => exact HCA.out.2); (case q3 => exact (Kd.R_reads' HCB.out).2.2); (case q4 => exact (Kd.R_reads' HCB.out).2.1); rintro e w11 ⟨rfl, ne, rfl⟩))
                          refine Cu.handed (60 - (i + 1)) (by have := HK.out; omega) (by assumption) ?_ (by kernel_rfl) (by kernel_rfl)
                          try dsimp only [Cu.pick, Cu.rep, Cu.nth]
                          exact ⟨F, i + 1, by rw [Int.natCast_add]; rfl, ⟨by omega⟩, ⟨HFD.out.1⟩, ⟨HFD.out.2.1⟩, ⟨HFD.out.2.2⟩, ⟨HI10.out.drewN _⟩, ⟨HR10.out.drewN _⟩, ⟨pw_below_drewN HB10.out _⟩⟩
                        · obtain ⟨l, hl⟩ : ∃ l, l = Rt.takeL E xb xn := ⟨_, rfl⟩
                          have hln : l.length < 1000000 := by rw [hl]; have := Rt.takeL_len E xb xn; have := HL.out; omega
                          obtain ⟨kn, hkn⟩ := Ex.eqn_f l hln
                          obtain ⟨kb, hkb⟩ := Ex.num_f l hln
                          obtain rfl : xb = 16 := by omega
                          obtain ⟨hn1, hn2⟩ := HSN.out.none xn
                          have htk : rate_Table_Take.f E 16 xn = some (l, 0, Rt.takeE E 16 xn) := by unfold rate_Table_Take.f; rw [if_pos HL.out, if_pos (by rw [p3]; decide), hl]
                          have hl0 : l = [] := hl.trans hn1
                          have htm : gimbalref0_Time.f xn = some true := by rw [Ex.time_f, p3]
                          have HTM := Aside0.mk htm
                          have HTK := Aside0.mk htk
                          have HKN := Aside0.mk hkn
                          have HKB := Aside0.mk hkb
                          have HLL := Aside0.mk hl
                          have HL0 := Aside0.mk hl0
                          have HN2 := Aside0.mk hn2
                          clear hl0 hn1 hn2
                          clear htm htk hkn hkb hl hln p3 p4
                          go_upto_region 46 with (first | (go_at_call 7; with_reducible refine (HWM.out _).mono ?_; rintro e w3 ⟨rfl, nd, rfl⟩)| (go_at_call 19; with_reducible refine (gimbalref0_Time.calls xn _ _ HTM.out).mono ?_; rintro e w2 ⟨rfl, nt, rfl⟩)| (go_at_call 20; with_reducible refine (Ex.take16 (w0 := w) (E := E) (g := g2) ?sR xn HL.out).mono ?_; (case sR => first | exact HR.out | exact HR.out.drewN _); rintro e w4 ⟨rfl, rfl⟩)| (go_at_call 11; with_reducible refine (rate_Table_Take.calls g E 16 xn _ _ _ w _ ?sI ?sB HTK.out).mono ?_; (case sI => first | exact HI.out | exact HI.out.drewN _); (case sB => first | exact HB.out | exact pw_below_drewN HB.out _); rintro e w5 ⟨vA, rfl, ho5, hi5, hb5, hk5⟩; obtain ⟨AA, cA, rfl⟩ := Kd.R_slice ho5; rw [HN2.out] at hi5; have HR5 : Aside0 (Ex.IsR w w5 g2 E) := ⟨by first | exact Ex.IsR.keep HR.out HI.out hk5 | exact Ex.IsR.keep (HR.out.drewN _) (HI.out.drewN _) hk5⟩; have HOA := Aside0.mk ho5; clear ho5; have HI5 := Aside0.mk hi5; have HB5 := Aside0.mk hb5; clear hi5 hb5 hk5)| (go_at_call 8; with_reducible refine (gimballaw27_num.calls _ _ _ rfl).mono ?_; rintro e w6 ⟨rfl, nn, rfl⟩)| (go_at_call 21; refine (gimbalref0_EqNumbers.calls kn AA cA l none 0 [] true _ ?q1 ?q2 ?q3 ?q4 (by have := HKN.out; have h0 := HL0.out; rw [h0] at this ⊢; exact this)).mono ?_; (case q1 => first | exact (Kd.R_reads' HOA.out).2.2 | exact (Kd.R_reads' (Kd.R_drewN HOA.out _)).2.2); (case q2 => exact (Kd.R_reads' HOA.out).2.1); (case q3 => exact Kd.C_nil _ _); (case q4 => exact Nat.le_refl _); rintro e w11 ⟨rfl, ne, rfl⟩)| (go_at_call 22; with_reducible refine (gimballaw0_Numbers.calls kb (fun k => some k = (Value.slice AA l.length cA).ownBlock) (.slice AA l.length cA) l w _ ?sB ?sO HKB.out).mono ?_; (case sB => exact pw_below_drewN HB5.out _); (case sO => exact Kd.R_lower (Kd.R_drewN (Kd.R_tight rfl HOA.out) _) (by first | exact HB4.out.size | exact (pw_below_drewN HB4.out _).size | exact HB.out.size | exact (pw_below_drewN HB.out _).size)); rintro e w6 ⟨rfl, hb6, hk6⟩; have HI6 : Aside0 (IsS65 w w6 g E) := ⟨Ex.IsS.kept (HI5.out.drewN _) (Kd.R_drewN HOA.out _) hk6⟩; have HR6 : Aside0 (Ex.IsR w w6 g2 E) := ⟨Ex.IsR.kept (HR5.out.drewN _) (Kd.R_drewN HOA.out _) hk6⟩; have HB6 := Aside0.mk hb6; clear hb6 hk6))
                          obtain ⟨F, hF⟩ : ∃ F : Rt.Tb, F = E := ⟨_, rfl⟩
                          have hfd : Rt.Own F ∧ Ex.Sen F ∧ F.length ≤ i + 1 := by rw [hF]; exact ⟨HOW.out, HSN.out, Nat.le_succ_of_le HE.out⟩
                          have HI8 := HI6; rw [← hF] at HI8
                          have HR8 := HR6; rw [← hF] at HR8
                          obtain ⟨lF, hlF⟩ : ∃ l, l = F.map (fun x => (⟨x.a, x.b, x.p, x.q⟩ : S29)) := ⟨_, rfl⟩
                          have hll : lF.length < 1000000 := by rw [hlF, List.length_map]; have := hfd.2.2; omega
                          obtain ⟨ke, hke⟩ := Ex.eqs_f lF hll
                          have hall : rate_Table_All.f F = some (lF, F) := by rw [hlF]; exact if_pos (by have := hfd.2.2; omega)
                          have hlt : F.length < 1000000 := by have := hfd.2.2; omega
                          have HFD := Aside0.mk hfd
                          have HLF := Aside0.mk hlF
                          have HKE := Aside0.mk hke
                          have HALL := Aside0.mk hall
                          have HLT := Aside0.mk hlt
                          clear hfd hlF hke hall hlt hll hF
                          go_wp2_with (first | (go_at_call 16; with_reducible refine (rate_Table_All.calls g F lF F w _ ?sI ?sB HALL.out).mono ?_; (case sI => first | exact HI8.out | exact HI8.out.drewN _); (case sB => first | exact HB6.out | exact pw_below_drewN HB6.out _); rintro e w9 ⟨vA, rfl, hoA, hi9, hb9, hk9⟩; obtain ⟨AA, cA, rfl⟩ := Kd.R_slice hoA; have HR9 : Aside0 (Ex.IsR w w9 g2 F) := ⟨by first | exact Ex.IsR.keep HR8.out HI8.out hk9 | exact Ex.IsR.keep (HR8.out.drewN _) (HI8.out.drewN _) hk9⟩; have HOA := Aside0.mk hoA; clear hoA; have HI9 := Aside0.mk hi9; have HB9 := Aside0.mk hb9; clear hi9 hb9 hk9)| (go_at_call 27; with_reducible refine (Ex.all (w0 := w) (E := F) ?sR ?sB HLT.out).mono ?_; (case sR => first | exact HR9.out | exact HR9.out.drewN _); (case sB => first | exact HB9.out | exact pw_below_drewN HB9.out _); rintro e w10 ⟨vB, rfl, hoB, hbB⟩; rw [← HLF.out] at hoB; obtain ⟨AB, cB, rfl⟩ := Kd.R_slice hoB; have HI10 : Aside0 (IsS65 w w10 g F) := ⟨by first | exact HI9.out.below hbB | exact (HI9.out.drewN _).below hbB⟩; have HR10 : Aside0 (Ex.IsR w w10 g2 F) := ⟨by first | exact HR9.out.below hbB | exact (HR9.out.drewN _).below hbB⟩; have HB10 : Aside0 (Below w.heap.size w w10) := ⟨by first | exact below_step HB9.out hbB | exact below_step (pw_below_drewN HB9.out _) hbB⟩; have HCA : Aside0 (Kd.C k29 w10 AA lF.length lF ∧ lF.length ≤ cA) := ⟨by first | exact ⟨(Kd.R_reads' (Kd.R_below HOA.out hbB)).2.2, (Kd.R_reads' HOA.out).2.1⟩ | exact ⟨(Kd.R_reads' (Kd.R_below (Kd.R_drewN HOA.out _) hbB)).2.2, (Kd.R_reads' HOA.out).2.1⟩⟩; have HCB := Aside0.mk hoB; clear hoB hbB HOA)| (go_at_call 26; refine (gimbalref0_EqSubs.calls ke AA cA lF AB cB lF true _ ?q1 ?q2 ?q3 ?q4 HKE.out).mono ?_; (case q1 => exact HCA.out.1); (case q2 => exact HCA.out.2); (case q3 => exact (Kd.R_reads' HCB.out).2.2); (case q4 => exact (Kd.R_reads' HCB.out).2.1); rintro e w11 ⟨rfl, ne, rfl⟩))
                          refine Cu.handed (60 - (i + 1)) (by have := HK.out; omega) (by assumption) ?_ (by kernel_rfl) (by kernel_rfl)
                          try dsimp only [Cu.pick, Cu.rep, Cu.nth]
                          exact ⟨F, i + 1, by rw [Int.natCast_add]; rfl, ⟨by omega⟩, ⟨HFD.out.1⟩, ⟨HFD.out.2.1⟩, ⟨HFD.out.2.2⟩, ⟨HI10.out.drewN _⟩, ⟨HR10.out.drewN _⟩, ⟨pw_below_drewN HB10.out _⟩⟩
                      | false =>
                        obtain ⟨l, hl⟩ : ∃ l, l = ([] : List Int) := ⟨_, rfl⟩
                        obtain ⟨kn, hkn⟩ := Ex.eqn_f ([] : List Int) (by decide)
                        have hkn : gimbalref0_EqNumbers.f kn l [] = some true := by rw [hl]; exact hkn
                        obtain ⟨kb, hkb⟩ := Ex.num_f ([] : List Int) (by decide)
                        have hkb : gimballaw0_Numbers.f kb l = some () := by rw [hl]; exact hkb
                        have htk : rate_Table_Take.f E xb xn = some (l, 1, E) := by unfold rate_Table_Take.f; rw [if_pos HL.out, if_neg (by rw [p3]; simp), hl]
                        have htm : gimbalref0_Time.f xn = some false := by rw [Ex.time_f, p3]
                        have HTM := Aside0.mk htm
                        clear htm p3
                        have HTK := Aside0.mk htk
                        have HKN := Aside0.mk hkn
                        have HKB := Aside0.mk hkb
                        clear htk hkn hkb hl
                        go_upto_region 46 with (first | (go_at_call 7; with_reducible refine (HWM.out _).mono ?_; rintro e w3 ⟨rfl, nd, rfl⟩)| (go_at_call 19; with_reducible refine (gimbalref0_Time.calls xn _ _ HTM.out).mono ?_; rintro e w2 ⟨rfl, nt, rfl⟩)| (go_at_call 11; with_reducible refine (rate_Table_Take.calls g E xb xn _ _ _ w _ ?sI ?sB HTK.out).mono ?_; (case sI => first | exact HI.out | exact HI.out.drewN _); (case sB => first | exact HB.out | exact pw_below_drewN HB.out _); rintro e w5 ⟨vA, rfl, ho5, hi5, hb5, hk5⟩; obtain ⟨AA, cA, rfl⟩ := Kd.R_slice ho5; have HR5 : Aside0 (Ex.IsR w w5 g2 E) := ⟨by first | exact Ex.IsR.keep HR.out HI.out hk5 | exact Ex.IsR.keep (HR.out.drewN _) (HI.out.drewN _) hk5⟩; have HOA := Aside0.mk ho5; clear ho5; have HI5 := Aside0.mk hi5; have HB5 := Aside0.mk hb5; clear hi5 hb5 hk5)| (go_at_call 8; with_reducible refine (gimballaw27_num.calls _ _ _ rfl).mono ?_; rintro e w6 ⟨rfl, nn, rfl⟩)| (go_at_call 21; refine (gimbalref0_EqNumbers.calls kn AA cA l none 0 [] true _ ?q1 ?q2 ?q3 ?q4 HKN.out).mono ?_; (case q1 => first | exact (Kd.R_reads' HOA.out).2.2 | exact (Kd.R_reads' (Kd.R_drewN HOA.out _)).2.2); (case q2 => exact (Kd.R_reads' HOA.out).2.1); (case q3 => exact Kd.C_nil _ _); (case q4 => exact Nat.le_refl _); rintro e w11 ⟨rfl, ne, rfl⟩)| (go_at_call 22; with_reducible refine (gimballaw0_Numbers.calls kb (fun k => some k = (Value.slice AA l.length cA).ownBlock) (.slice AA l.length cA) l w _ ?sB ?sO HKB.out).mono ?_; (case sB => exact pw_below_drewN HB5.out _); (case sO => exact Kd.R_lower (Kd.R_drewN (Kd.R_tight rfl HOA.out) _) (by first | exact HB4.out.size | exact (pw_below_drewN HB4.out _).size | exact HB.out.size | exact (pw_below_drewN HB.out _).size)); rintro e w6 ⟨rfl, hb6, hk6⟩; have HI6 : Aside0 (IsS65 w w6 g E) := ⟨Ex.IsS.kept (HI5.out.drewN _) (Kd.R_drewN HOA.out _) hk6⟩; have HR6 : Aside0 (Ex.IsR w w6 g2 E) := ⟨Ex.IsR.kept (HR5.out.drewN _) (Kd.R_drewN HOA.out _) hk6⟩; have HB6 := Aside0.mk hb6; clear hb6 hk6))
                        obtain ⟨F, hF⟩ : ∃ F : Rt.Tb, F = E := ⟨_, rfl⟩
                        have hfd : Rt.Own F ∧ Ex.Sen F ∧ F.length ≤ i + 1 := by rw [hF]; exact ⟨HOW.out, HSN.out, Nat.le_succ_of_le HE.out⟩
                        have HI8 := HI6; rw [← hF] at HI8
                        have HR8 := HR6; rw [← hF] at HR8
                        obtain ⟨lF, hlF⟩ : ∃ l, l = F.map (fun x => (⟨x.a, x.b, x.p, x.q⟩ : S29)) := ⟨_, rfl⟩
                        have hll : lF.length < 1000000 := by rw [hlF, List.length_map]; have := hfd.2.2; omega
                        obtain ⟨ke, hke⟩ := Ex.eqs_f lF hll
                        have hall : rate_Table_All.f F = some (lF, F) := by rw [hlF]; exact if_pos (by have := hfd.2.2; omega)
                        have hlt : F.length < 1000000 := by have := hfd.2.2; omega
                        have HFD := Aside0.mk hfd
                        have HLF := Aside0.mk hlF
                        have HKE := Aside0.mk hke
                        have HALL := Aside0.mk hall
                        have HLT := Aside0.mk hlt
                        clear hfd hlF hke hall hlt hll hF
                        go_wp2_with (first | (go_at_call 16; with_reducible refine (rate_Table_All.calls g F lF F w _ ?sI ?sB HALL.out).mono ?_; (case sI => first | exact HI8.out | exact HI8.out.drewN _); (case sB => first | exact HB6.out | exact pw_below_drewN HB6.out _); rintro e w9 ⟨vA, rfl, hoA, hi9, hb9, hk9⟩; obtain ⟨AA, cA, rfl⟩ := Kd.R_slice hoA; have HR9 : Aside0 (Ex.IsR w w9 g2 F) := ⟨by first | exact Ex.IsR.keep HR8.out HI8.out hk9 | exact Ex.IsR.keep (HR8.out.drewN _) (HI8.out.drewN _) hk9⟩; have HOA := Aside0.mk hoA; clear hoA; have HI9 := Aside0.mk hi9; have HB9 := Aside0.mk hb9; clear hi9 hb9 hk9)| (go_at_call 27; with_reducible refine (Ex.all (w0 := w) (E := F) ?sR ?sB HLT.out).mono ?_; (case sR => first | exact HR9.out | exact HR9.out.drewN _); (case sB => first | exact HB9.out | exact pw_below_drewN HB9.out _); rintro e w10 ⟨vB, rfl, hoB, hbB⟩; rw [← HLF.out] at hoB; obtain ⟨AB, cB, rfl⟩ := Kd.R_slice hoB; have HI10 : Aside0 (IsS65 w w10 g F) := ⟨by first | exact HI9.out.below hbB | exact (HI9.out.drewN _).below hbB⟩; have HR10 : Aside0 (Ex.IsR w w10 g2 F) := ⟨by first | exact HR9.out.below hbB | exact (HR9.out.drewN _).below hbB⟩; have HB10 : Aside0 (Below w.heap.size w w10) := ⟨by first | exact below_step HB9.out hbB | exact below_step (pw_below_drewN HB9.out _) hbB⟩; have HCA : Aside0 (Kd.C k29 w10 AA lF.length lF ∧ lF.length ≤ cA) := ⟨by first | exact ⟨(Kd.R_reads' (Kd.R_below HOA.out hbB)).2.2, (Kd.R_reads' HOA.out).2.1⟩ | exact ⟨(Kd.R_reads' (Kd.R_below (Kd.R_drewN HOA.out _) hbB)).2.2, (Kd.R_reads' HOA.out).2.1⟩⟩; have HCB := Aside0.mk hoB; clear hoB hbB HOA)| (go_at_call 26; refine (gimbalref0_EqSubs.calls ke AA cA lF AB cB lF true _ ?q1 ?q2 ?q3 ?q4 HKE.out).mono ?_; (case q1 => exact HCA.out.1); (case q2 => exact HCA.out.2); (case q3 => exact (Kd.R_reads' HCB.out).2.2); (case q4 => exact (Kd.R_reads' HCB.out).2.1); rintro e w11 ⟨rfl, ne, rfl⟩))
                        refine Cu.handed (60 - (i + 1)) (by have := HK.out; omega) (by assumption) ?_ (by kernel_rfl) (by kernel_rfl)
                        try dsimp only [Cu.pick, Cu.rep, Cu.nth]
                        exact ⟨F, i + 1, by rw [Int.natCast_add]; rfl, ⟨by omega⟩, ⟨HFD.out.1⟩, ⟨HFD.out.2.1⟩, ⟨HFD.out.2.2⟩, ⟨HI10.out.drewN _⟩, ⟨HR10.out.drewN _⟩, ⟨pw_below_drewN HB10.out _⟩⟩
                    · obtain ⟨l, hl⟩ : ∃ l, l = ([] : List Int) := ⟨_, rfl⟩
                      obtain ⟨kn, hkn⟩ := Ex.eqn_f ([] : List Int) (by decide)
                      have hkn : gimbalref0_EqNumbers.f kn l [] = some true := by rw [hl]; exact hkn
                      obtain ⟨kb, hkb⟩ := Ex.num_f ([] : List Int) (by decide)
                      have hkb : gimballaw0_Numbers.f kb l = some () := by rw [hl]; exact hkb
                      have htk : rate_Table_Take.f E xb xn = some (l, 1, E) := by unfold rate_Table_Take.f; rw [if_pos HL.out, if_neg (by unfold Rt.senOk; simp; omega), hl]
                      have HTK := Aside0.mk htk
                      have HKN := Aside0.mk hkn
                      have HKB := Aside0.mk hkb
                      clear htk hkn hkb hl
                      go_upto_region 46 with (first | (go_at_call 7; with_reducible refine (HWM.out _).mono ?_; rintro e w3 ⟨rfl, nd, rfl⟩)| (go_at_call 11; with_reducible refine (rate_Table_Take.calls g E xb xn _ _ _ w _ ?sI ?sB HTK.out).mono ?_; (case sI => first | exact HI.out | exact HI.out.drewN _); (case sB => first | exact HB.out | exact pw_below_drewN HB.out _); rintro e w5 ⟨vA, rfl, ho5, hi5, hb5, hk5⟩; obtain ⟨AA, cA, rfl⟩ := Kd.R_slice ho5; have HR5 : Aside0 (Ex.IsR w w5 g2 E) := ⟨by first | exact Ex.IsR.keep HR.out HI.out hk5 | exact Ex.IsR.keep (HR.out.drewN _) (HI.out.drewN _) hk5⟩; have HOA := Aside0.mk ho5; clear ho5; have HI5 := Aside0.mk hi5; have HB5 := Aside0.mk hb5; clear hi5 hb5 hk5)| (go_at_call 8; with_reducible refine (gimballaw27_num.calls _ _ _ rfl).mono ?_; rintro e w6 ⟨rfl, nn, rfl⟩)| (go_at_call 21; refine (gimbalref0_EqNumbers.calls kn AA cA l none 0 [] true _ ?q1 ?q2 ?q3 ?q4 HKN.out).mono ?_; (case q1 => first | exact (Kd.R_reads' HOA.out).2.2 | exact (Kd.R_reads' (Kd.R_drewN HOA.out _)).2.2); (case q2 => exact (Kd.R_reads' HOA.out).2.1); (case q3 => exact Kd.C_nil _ _); (case q4 => exact Nat.le_refl _); rintro e w11 ⟨rfl, ne, rfl⟩)| (go_at_call 22; with_reducible refine (gimballaw0_Numbers.calls kb (fun k => some k = (Value.slice AA l.length cA).ownBlock) (.slice AA l.length cA) l w _ ?sB ?sO HKB.out).mono ?_; (case sB => exact pw_below_drewN HB5.out _); (case sO => exact Kd.R_lower (Kd.R_drewN (Kd.R_tight rfl HOA.out) _) (by first | exact HB4.out.size | exact (pw_below_drewN HB4.out _).size | exact HB.out.size | exact (pw_below_drewN HB.out _).size)); rintro e w6 ⟨rfl, hb6, hk6⟩; have HI6 : Aside0 (IsS65 w w6 g E) := ⟨Ex.IsS.kept (HI5.out.drewN _) (Kd.R_drewN HOA.out _) hk6⟩; have HR6 : Aside0 (Ex.IsR w w6 g2 E) := ⟨Ex.IsR.kept (HR5.out.drewN _) (Kd.R_drewN HOA.out _) hk6⟩; have HB6 := Aside0.mk hb6; clear hb6 hk6))
                      obtain ⟨F, hF⟩ : ∃ F : Rt.Tb, F = E := ⟨_, rfl⟩
                      have hfd : Rt.Own F ∧ Ex.Sen F ∧ F.length ≤ i + 1 := by rw [hF]; exact ⟨HOW.out, HSN.out, Nat.le_succ_of_le HE.out⟩
                      have HI8 := HI6; rw [← hF] at HI8
                      have HR8 := HR6; rw [← hF] at HR8
                      obtain ⟨lF, hlF⟩ : ∃ l, l = F.map (fun x => (⟨x.a, x.b, x.p, x.q⟩ : S29)) := ⟨_, rfl⟩
                      have hll : lF.length < 1000000 := by rw [hlF, List.length_map]; have := hfd.2.2; omega
                      obtain ⟨ke, hke⟩ := Ex.eqs_f lF hll
                      have hall : rate_Table_All.f F = some (lF, F) := by rw [hlF]; exact if_pos (by have := hfd.2.2; omega)
                      have hlt : F.length < 1000000 := by have := hfd.2.2; omega
                      have HFD := Aside0.mk hfd
                      have HLF := Aside0.mk hlF
                      have HKE := Aside0.mk hke
                      have HALL := Aside0.mk hall
                      have HLT := Aside0.mk hlt
                      clear hfd hlF hke hall hlt hll hF
                      go_wp2_with (first | (go_at_call 16; with_reducible refine (rate_Table_All.calls g F lF F w _ ?sI ?sB HALL.out).mono ?_; (case sI => first | exact HI8.out | exact HI8.out.drewN _); (case sB => first | exact HB6.out | exact pw_below_drewN HB6.out _); rintro e w9 ⟨vA, rfl, hoA, hi9, hb9, hk9⟩; obtain ⟨AA, cA, rfl⟩ := Kd.R_slice hoA; have HR9 : Aside0 (Ex.IsR w w9 g2 F) := ⟨by first | exact Ex.IsR.keep HR8.out HI8.out hk9 | exact Ex.IsR.keep (HR8.out.drewN _) (HI8.out.drewN _) hk9⟩; have HOA := Aside0.mk hoA; clear hoA; have HI9 := Aside0.mk hi9; have HB9 := Aside0.mk hb9; clear hi9 hb9 hk9)| (go_at_call 27; with_reducible refine (Ex.all (w0 := w) (E := F) ?sR ?sB HLT.out).mono ?_; (case sR => first | exact HR9.out | exact HR9.out.drewN _); (case sB => first | exact HB9.out | exact pw_below_drewN HB9.out _); rintro e w10 ⟨vB, rfl, hoB, hbB⟩; rw [← HLF.out] at hoB; obtain ⟨AB, cB, rfl⟩ := Kd.R_slice hoB; have HI10 : Aside0 (IsS65 w w10 g F) := ⟨by first | exact HI9.out.below hbB | exact (HI9.out.drewN _).below hbB⟩; have HR10 : Aside0 (Ex.IsR w w10 g2 F) := ⟨by first | exact HR9.out.below hbB | exact (HR9.out.drewN _).below hbB⟩; have HB10 : Aside0 (Below w.heap.size w w10) := ⟨by first | exact below_step HB9.out hbB | exact below_step (pw_below_drewN HB9.out _) hbB⟩; have HCA : Aside0 (Kd.C k29 w10 AA lF.length lF ∧ lF.length ≤ cA) := ⟨by first | exact ⟨(Kd.R_reads' (Kd.R_below HOA.out hbB)).2.2, (Kd.R_reads' HOA.out).2.1⟩ | exact ⟨(Kd.R_reads' (Kd.R_below (Kd.R_drewN HOA.out _) hbB)).2.2, (Kd.R_reads' HOA.out).2.1⟩⟩; have HCB := Aside0.mk hoB; clear hoB hbB HOA)| (go_at_call 26; refine (gimbalref0_EqSubs.calls ke AA cA lF AB cB lF true _ ?q1 ?q2 ?q3 ?q4 HKE.out).mono ?_; (case q1 => exact HCA.out.1); (case q2 => exact HCA.out.2); (case q3 => exact (Kd.R_reads' HCB.out).2.2); (case q4 => exact (Kd.R_reads' HCB.out).2.1); rintro e w11 ⟨rfl, ne, rfl⟩))
                      refine Cu.handed (60 - (i + 1)) (by have := HK.out; omega) (by assumption) ?_ (by kernel_rfl) (by kernel_rfl)
                      try dsimp only [Cu.pick, Cu.rep, Cu.nth]
                      exact ⟨F, i + 1, by rw [Int.natCast_add]; rfl, ⟨by omega⟩, ⟨HFD.out.1⟩, ⟨HFD.out.2.1⟩, ⟨HFD.out.2.2⟩, ⟨HI10.out.drewN _⟩, ⟨HR10.out.drewN _⟩, ⟨pw_below_drewN HB10.out _⟩⟩
                  · obtain ⟨l, hl⟩ : ∃ l, l = ([] : List Int) := ⟨_, rfl⟩
                    obtain ⟨kn, hkn⟩ := Ex.eqn_f ([] : List Int) (by decide)
                    have hkn : gimbalref0_EqNumbers.f kn l [] = some true := by rw [hl]; exact hkn
                    obtain ⟨kb, hkb⟩ := Ex.num_f ([] : List Int) (by decide)
                    have hkb : gimballaw0_Numbers.f kb l = some () := by rw [hl]; exact hkb
                    have htk : rate_Table_Take.f E xb xn = some (l, 1, E) := by unfold rate_Table_Take.f; rw [if_pos HL.out, if_neg (by unfold Rt.senOk; simp; omega), hl]
                    have HTK := Aside0.mk htk
                    have HKN := Aside0.mk hkn
                    have HKB := Aside0.mk hkb
                    clear htk hkn hkb hl
                    go_upto_region 46 with (first | (go_at_call 7; with_reducible refine (HWM.out _).mono ?_; rintro e w3 ⟨rfl, nd, rfl⟩)| (go_at_call 11; with_reducible refine (rate_Table_Take.calls g E xb xn _ _ _ w _ ?sI ?sB HTK.out).mono ?_; (case sI => first | exact HI.out | exact HI.out.drewN _); (case sB => first | exact HB.out | exact pw_below_drewN HB.out _); rintro e w5 ⟨vA, rfl, ho5, hi5, hb5, hk5⟩; obtain ⟨AA, cA, rfl⟩ := Kd.R_slice ho5; have HR5 : Aside0 (Ex.IsR w w5 g2 E) := ⟨by first | exact Ex.IsR.keep HR.out HI.out hk5 | exact Ex.IsR.keep (HR.out.drewN _) (HI.out.drewN _) hk5⟩; have HOA := Aside0.mk ho5; clear ho5; have HI5 := Aside0.mk hi5; have HB5 := Aside0.mk hb5; clear hi5 hb5 hk5)| (go_at_call 8; with_reducible refine (gimballaw27_num.calls _ _ _ rfl).mono ?_; rintro e w6 ⟨rfl, nn, rfl⟩)| (go_at_call 21; refine (gimbalref0_EqNumbers.calls kn AA cA l none 0 [] true _ ?q1 ?q2 ?q3 ?q4 HKN.out).mono ?_; (case q1 => first | exact (Kd.R_reads' HOA.out).2.2 | exact (Kd.R_reads' (Kd.R_drewN HOA.out _)).2.2); (case q2 => exact (Kd.R_reads' HOA.out).2.1); (case q3 => exact Kd.C_nil _ _); (case q4 => exact Nat.le_refl _); rintro e w11 ⟨rfl, ne, rfl⟩)| (go_at_call 22; with_reducible refine (gimballaw0_Numbers.calls kb (fun k => some k = (Value.slice AA l.length cA).ownBlock) (.slice AA l.length cA) l w _ ?sB ?sO HKB.out).mono ?_; (case sB => exact pw_below_drewN HB5.out _); (case sO => exact Kd.R_lower (Kd.R_drewN (Kd.R_tight rfl HOA.out) _) (by first | exact HB4.out.size | exact (pw_below_drewN HB4.out _).size | exact HB.out.size | exact (pw_below_drewN HB.out _).size)); rintro e w6 ⟨rfl, hb6, hk6⟩; have HI6 : Aside0 (IsS65 w w6 g E) := ⟨Ex.IsS.kept (HI5.out.drewN _) (Kd.R_drewN HOA.out _) hk6⟩; have HR6 : Aside0 (Ex.IsR w w6 g2 E) := ⟨Ex.IsR.kept (HR5.out.drewN _) (Kd.R_drewN HOA.out _) hk6⟩; have HB6 := Aside0.mk hb6; clear hb6 hk6))
                    obtain ⟨F, hF⟩ : ∃ F : Rt.Tb, F = E := ⟨_, rfl⟩
                    have hfd : Rt.Own F ∧ Ex.Sen F ∧ F.length ≤ i + 1 := by rw [hF]; exact ⟨HOW.out, HSN.out, Nat.le_succ_of_le HE.out⟩
                    have HI8 := HI6; rw [← hF] at HI8
                    have HR8 := HR6; rw [← hF] at HR8
                    obtain ⟨lF, hlF⟩ : ∃ l, l = F.map (fun x => (⟨x.a, x.b, x.p, x.q⟩ : S29)) := ⟨_, rfl⟩
                    have hll : lF.length < 1000000 := by rw [hlF, List.length_map]; have := hfd.2.2; omega
                    obtain ⟨ke, hke⟩ := Ex.eqs_f lF hll
                    have hall : rate_Table_All.f F = some (lF, F) := by rw [hlF]; exact if_pos (by have := hfd.2.2; omega)
                    have hlt : F.length < 1000000 := by have := hfd.2.2; omega
                    have HFD := Aside0.mk hfd
                    have HLF := Aside0.mk hlF
                    have HKE := Aside0.mk hke
                    have HALL := Aside0.mk hall
                    have HLT := Aside0.mk hlt
                    clear hfd hlF hke hall hlt hll hF
                    go_wp2_with (first | (go_at_call 16; with_reducible refine (rate_Table_All.calls g F lF F w _ ?sI ?sB HALL.out).mono ?_; (case sI => first | exact HI8.out | exact HI8.out.drewN _); (case sB => first | exact HB6.out | exact pw_below_drewN HB6.out _); rintro e w9 ⟨vA, rfl, hoA, hi9, hb9, hk9⟩; obtain ⟨AA, cA, rfl⟩ := Kd.R_slice hoA; have HR9 : Aside0 (Ex.IsR w w9 g2 F) := ⟨by first | exact Ex.IsR.keep HR8.out HI8.out hk9 | exact Ex.IsR.keep (HR8.out.drewN _) (HI8.out.drewN _) hk9⟩; have HOA := Aside0.mk hoA; clear hoA; have HI9 := Aside0.mk hi9; have HB9 := Aside0.mk hb9; clear hi9 hb9 hk9)| (go_at_call 27; with_reducible refine (Ex.all (w0 := w) (E := F) ?sR ?sB HLT.out).mono ?_; (case sR => first | exact HR9.out | exact HR9.out.drewN _); (case sB => first | exact HB9.out | exact pw_below_drewN HB9.out _); rintro e w10 ⟨vB, rfl, hoB, hbB⟩; rw [← HLF.out] at hoB; obtain ⟨AB, cB, rfl⟩ := Kd.R_slice hoB; have HI10 : Aside0 (IsS65 w w10 g F) := ⟨by first | exact HI9.out.below hbB | exact (HI9.out.drewN _).below hbB⟩; have HR10 : Aside0 (Ex.IsR w w10 g2 F) := ⟨by first | exact HR9.out.below hbB | exact (HR9.out.drewN _).below hbB⟩; have HB10 : Aside0 (Below w.heap.size w w10) := ⟨by first | exact below_step HB9.out hbB | exact below_step (pw_below_drewN HB9.out _) hbB⟩; have HCA : Aside0 (Kd.C k29 w10 AA lF.length lF ∧ lF.length ≤ cA) := ⟨by first | exact ⟨(Kd.R_reads' (Kd.R_below HOA.out hbB)).2.2, (Kd.R_reads' HOA.out).2.1⟩ | exact ⟨(Kd.R_reads' (Kd.R_below (Kd.R_drewN HOA.out _) hbB)).2.2, (Kd.R_reads' HOA.out).2.1⟩⟩; have HCB := Aside0.mk hoB; clear hoB hbB HOA)| (go_at_call 26; refine (gimbalref0_EqSubs.calls ke AA cA lF AB cB lF true _ ?q1 ?q2 ?q3 ?q4 HKE.out).mono ?_; (case q1 => exact HCA.out.1); (case q2 => exact HCA.out.2); (case q3 => exact (Kd.R_reads' HCB.out).2.2); (case q4 => exact (Kd.R_reads' HCB.out).2.1); rintro e w11 ⟨rfl, ne, rfl⟩))
                    refine Cu.handed (60 - (i + 1)) (by have := HK.out; omega) (by assumption) ?_ (by kernel_rfl) (by kernel_rfl)
                    try dsimp only [Cu.pick, Cu.rep, Cu.nth]
                    exact ⟨F, i + 1, by rw [Int.natCast_add]; rfl, ⟨by omega⟩, ⟨HFD.out.1⟩, ⟨HFD.out.2.1⟩, ⟨HFD.out.2.2⟩, ⟨HI10.out.drewN _⟩, ⟨HR10.out.drewN _⟩, ⟨pw_below_drewN HB10.out _⟩⟩
                · have hm3' : ¬ (m : Int) = 3 := by omega
                  have hm4' : ¬ (m : Int) = 4 := by omega
                  have hm5' : ¬ (m : Int) = 5 := by omega
                  have hm6' : ¬ (m : Int) = 6 := by omega
                  have hm7' : ¬ (m : Int) = 7 := by omega
                  have hm8' : ¬ (m : Int) = 8 := by omega
                  clear hm3 hm4
                  cases hms : Rt.maySub xa xb xp xq with
                  | true =>
                    have hmay : gimbalref25_MaySub.f xa xb xp xq = some true := by rw [Ex.maySub_f, hms]
                    have hb15 : xb ≤ 15 := by unfold Rt.maySub at hms; simp at hms; omega
                    have had : rate_Table_Add.f E xa xb xp xq = some (0, Rt.Tb.add E xa xb xp xq) := by unfold rate_Table_Add.f; rw [if_pos HL.out, if_pos hms]
                    have HMAY := Aside0.mk hmay
                    have HAD := Aside0.mk had
                    have HB15 := Aside0.mk hb15
                    have HM0 := Aside0.mk hm8
                    clear hmay had hms hb15
                    go_upto_region 46 with (first | (go_at_call 7; with_reducible refine (HWM.out _).mono ?_; rintro e w3 ⟨rfl, nd, rfl⟩)| (go_at_call 15; with_reducible refine (gimbalref25_MaySub.calls xa xb xp xq _ _ HMAY.out).mono ?_; rintro e w3 ⟨rfl, hbW⟩; have HI3 : Aside0 (IsS65 w w3 g E) := ⟨by first | exact HI.out.below hbW | exact (HI.out.drewN _).below hbW⟩; have HR3 : Aside0 (Ex.IsR w w3 g2 E) := ⟨by first | exact HR.out.below hbW | exact (HR.out.drewN _).below hbW⟩; have HB3 : Aside0 (Below w.heap.size w w3) := ⟨by first | exact below_step HB.out hbW | exact below_step (pw_below_drewN HB.out _) hbW⟩; have BK3 : Aside0 (w3.heap[bx]? = some (.cells #[.int .i64 xd, .int .i64 xa, .int .i64 xb, .int .i64 xp, .int .i64 xq, .int .i64 xn] 31 (0, 0))) := ⟨by first | exact Ex.bbox hbW BK.out | exact Ex.bbox hbW (Ex.bkd BK.out _)⟩; obtain ⟨z0, z1, z2, z3, z4, z5⟩ := Ex.c6 BK3.out; clear hbW)| (go_at_call 25; with_reducible refine (Ex.add (w0 := w) (E := E) ?sR ?sB xa xb xp xq HOW.out (Ex.srt HI3.out) HL.out).mono ?_; (case sR => first | exact HR3.out | exact HR3.out.drewN _); (case sB => first | exact HB3.out | exact pw_below_drewN HB3.out _); rintro e w4 ⟨rfl, hr4, hb4, hm4⟩; have HI4 : Aside0 (IsS65 w w4 g E) := ⟨by first | exact Ex.IsS.rmov HI3.out HR3.out hm4 | exact Ex.IsS.rmov (HI3.out.drewN _) (HR3.out.drewN _) hm4⟩; have BK4 : Aside0 (w4.heap[bx]? = some (.cells #[.int .i64 xd, .int .i64 xa, .int .i64 xb, .int .i64 xp, .int .i64 xq, .int .i64 xn] 31 (0, 0))) := ⟨by first | exact Ex.rbox hm4 HR3.out BK3.out | exact Ex.rbox hm4 (HR3.out.drewN _) (Ex.bkd BK3.out _)⟩; obtain ⟨z0, z1, z2, z3, z4, z5⟩ := Ex.c6 BK4.out; have HR4 := Aside0.mk hr4; have HB4 := Aside0.mk hb4; clear hr4 hb4 hm4)| (go_at_call 9; with_reducible refine (rate_Table_Add.calls g E xa xb xp xq _ _ w _ ?sI ?sB HAD.out).mono ?_; (case sI => first | exact HI4.out | exact HI4.out.drewN _); (case sB => first | exact HB4.out | exact pw_below_drewN HB4.out _); rintro e w5 ⟨rfl, hi5, hb5, hk5⟩; have HR5 : Aside0 (Ex.IsR w w5 g2 (Rt.Tb.add E xa xb xp xq)) := ⟨by first | exact Ex.IsR.keep HR4.out HI4.out hk5 | exact Ex.IsR.keep (HR4.out.drewN _) (HI4.out.drewN _) hk5⟩; have HI5 := Aside0.mk hi5; have HB5 := Aside0.mk hb5; clear hi5 hb5 hk5)| (go_at_call 8; with_reducible refine (gimballaw27_num.calls _ _ _ rfl).mono ?_; rintro e w6 ⟨rfl, nn, rfl⟩))
                    replace HI5 := Aside0.mk (HI5.out.drewN nn)
                    replace HR5 := Aside0.mk (HR5.out.drewN nn)
                    replace HB5 := Aside0.mk (pw_below_drewN HB5.out nn)
                    obtain ⟨F, hF⟩ : ∃ F : Rt.Tb, F = Rt.Tb.add E xa xb xp xq := ⟨_, rfl⟩
                    have hfd : Rt.Own F ∧ Ex.Sen F ∧ F.length ≤ i + 1 := by rw [hF]; exact ⟨HOW.out.add _ _ _ _, HSN.out.add HB15.out, by rw [Rt.len_add (Ex.srt HI.out)]; have := HE.out; split <;> omega⟩
                    have HI8 := HI5; rw [← hF] at HI8
                    have HR8 := HR5; rw [← hF] at HR8
                    obtain ⟨lF, hlF⟩ : ∃ l, l = F.map (fun x => (⟨x.a, x.b, x.p, x.q⟩ : S29)) := ⟨_, rfl⟩
                    have hll : lF.length < 1000000 := by rw [hlF, List.length_map]; have := hfd.2.2; omega
                    obtain ⟨ke, hke⟩ := Ex.eqs_f lF hll
                    have hall : rate_Table_All.f F = some (lF, F) := by rw [hlF]; exact if_pos (by have := hfd.2.2; omega)
                    have hlt : F.length < 1000000 := by have := hfd.2.2; omega
                    have HFD := Aside0.mk hfd
                    have HLF := Aside0.mk hlF
                    have HKE := Aside0.mk hke
                    have HALL := Aside0.mk hall
                    have HLT := Aside0.mk hlt
                    clear hfd hlF hke hall hlt hll hF
                    go_wp2_with (first | (go_at_call 16; with_reducible refine (rate_Table_All.calls g F lF F w _ ?sI ?sB HALL.out).mono ?_; (case sI => first | exact HI8.out | exact HI8.out.drewN _); (case sB => first | exact HB5.out | exact pw_below_drewN HB5.out _); rintro e w9 ⟨vA, rfl, hoA, hi9, hb9, hk9⟩; obtain ⟨AA, cA, rfl⟩ := Kd.R_slice hoA; have HR9 : Aside0 (Ex.IsR w w9 g2 F) := ⟨by first | exact Ex.IsR.keep HR8.out HI8.out hk9 | exact Ex.IsR.keep (HR8.out.drewN _) (HI8.out.drewN _) hk9⟩; have HOA := Aside0.mk hoA; clear hoA; have HI9 := Aside0.mk hi9; have HB9 := Aside0.mk hb9; clear hi9 hb9 hk9)| (go_at_call 27; with_reducible refine (Ex.all (w0 := w) (E := F) ?sR ?sB HLT.out).mono ?_; (case sR => first | exact HR9.out | exact HR9.out.drewN _); (case sB => first | exact HB9.out | exact pw_below_drewN HB9.out _); rintro e w10 ⟨vB, rfl, hoB, hbB⟩; rw [← HLF.out] at hoB; obtain ⟨AB, cB, rfl⟩ := Kd.R_slice hoB; have HI10 : Aside0 (IsS65 w w10 g F) := ⟨by first | exact HI9.out.below hbB | exact (HI9.out.drewN _).below hbB⟩; have HR10 : Aside0 (Ex.IsR w w10 g2 F) := ⟨by first | exact HR9.out.below hbB | exact (HR9.out.drewN _).below hbB⟩; have HB10 : Aside0 (Below w.heap.size w w10) := ⟨by first | exact below_step HB9.out hbB | exact below_step (pw_below_drewN HB9.out _) hbB⟩; have HCA : Aside0 (Kd.C k29 w10 AA lF.length lF ∧ lF.length ≤ cA) := ⟨by first | exact ⟨(Kd.R_reads' (Kd.R_below HOA.out hbB)).2.2, (Kd.R_reads' HOA.out).2.1⟩ | exact ⟨(Kd.R_reads' (Kd.R_below (Kd.R_drewN HOA.out _) hbB)).2.2, (Kd.R_reads' HOA.out).2.1⟩⟩; have HCB := Aside0.mk hoB; clear hoB hbB HOA)| (go_at_call 26; refine (gimbalref0_EqSubs.calls ke AA cA lF AB cB lF true _ ?q1 ?q2 ?q3 ?q4 HKE.out).mono ?_; (case q1 => exact HCA.out.1); (case q2 => exact HCA.out.2); (case q3 => exact (Kd.R_reads' HCB.out).2.2); (case q4 => exact (Kd.R_reads' HCB.out).2.1); rintro e w11 ⟨rfl, ne, rfl⟩))
                    refine Cu.handed (60 - (i + 1)) (by have := HK.out; omega) (by assumption) ?_ (by kernel_rfl) (by kernel_rfl)
                    try dsimp only [Cu.pick, Cu.rep, Cu.nth]
                    exact ⟨F, i + 1, by rw [Int.natCast_add]; rfl, ⟨by omega⟩, ⟨HFD.out.1⟩, ⟨HFD.out.2.1⟩, ⟨HFD.out.2.2⟩, ⟨HI10.out.drewN _⟩, ⟨HR10.out.drewN _⟩, ⟨pw_below_drewN HB10.out _⟩⟩
                  | false =>
                    have hmay : gimbalref25_MaySub.f xa xb xp xq = some false := by rw [Ex.maySub_f, hms]
                    have had : rate_Table_Add.f E xa xb xp xq = some (1, E) := by unfold rate_Table_Add.f; rw [if_pos HL.out, hms]; rfl
                    have HMAY := Aside0.mk hmay
                    have HAD := Aside0.mk had
                    have HM0 := Aside0.mk hm8
                    clear hmay had hms 
                    go_upto_region 46 with (first | (go_at_call 7; with_reducible refine (HWM.out _).mono ?_; rintro e w3 ⟨rfl, nd, rfl⟩)| (go_at_call 15; with_reducible refine (gimbalref25_MaySub.calls xa xb xp xq _ _ HMAY.out).mono ?_; rintro e w3 ⟨rfl, hbW⟩; have HI3 : Aside0 (IsS65 w w3 g E) := ⟨by first | exact HI.out.below hbW | exact (HI.out.drewN _).below hbW⟩; have HR3 : Aside0 (Ex.IsR w w3 g2 E) := ⟨by first | exact HR.out.below hbW | exact (HR.out.drewN _).below hbW⟩; have HB3 : Aside0 (Below w.heap.size w w3) := ⟨by first | exact below_step HB.out hbW | exact below_step (pw_below_drewN HB.out _) hbW⟩; have BK3 : Aside0 (w3.heap[bx]? = some (.cells #[.int .i64 xd, .int .i64 xa, .int .i64 xb, .int .i64 xp, .int .i64 xq, .int .i64 xn] 31 (0, 0))) := ⟨by first | exact Ex.bbox hbW BK.out | exact Ex.bbox hbW (Ex.bkd BK.out _)⟩; obtain ⟨z0, z1, z2, z3, z4, z5⟩ := Ex.c6 BK3.out; clear hbW)| (go_at_call 9; with_reducible refine (rate_Table_Add.calls g E xa xb xp xq _ _ w _ ?sI ?sB HAD.out).mono ?_; (case sI => first | exact HI3.out | exact HI3.out.drewN _); (case sB => first | exact HB3.out | exact pw_below_drewN HB3.out _); rintro e w5 ⟨rfl, hi5, hb5, hk5⟩; have HR5 : Aside0 (Ex.IsR w w5 g2 E) := ⟨by first | exact Ex.IsR.keep HR3.out HI3.out hk5 | exact Ex.IsR.keep (HR3.out.drewN _) (HI3.out.drewN _) hk5⟩; have HI5 := Aside0.mk hi5; have HB5 := Aside0.mk hb5; clear hi5 hb5 hk5)| (go_at_call 8; with_reducible refine (gimballaw27_num.calls _ _ _ rfl).mono ?_; rintro e w6 ⟨rfl, nn, rfl⟩))
                    replace HI5 := Aside0.mk (HI5.out.drewN nn)
                    replace HR5 := Aside0.mk (HR5.out.drewN nn)
                    replace HB5 := Aside0.mk (pw_below_drewN HB5.out nn)
                    obtain ⟨F, hF⟩ : ∃ F : Rt.Tb, F = E := ⟨_, rfl⟩
                    have hfd : Rt.Own F ∧ Ex.Sen F ∧ F.length ≤ i + 1 := by rw [hF]; exact ⟨HOW.out, HSN.out, Nat.le_succ_of_le HE.out⟩
                    have HI8 := HI5; rw [← hF] at HI8
                    have HR8 := HR5; rw [← hF] at HR8
                    obtain ⟨lF, hlF⟩ : ∃ l, l = F.map (fun x => (⟨x.a, x.b, x.p, x.q⟩ : S29)) := ⟨_, rfl⟩
                    have hll : lF.length < 1000000 := by rw [hlF, List.length_map]; have := hfd.2.2; omega
                    obtain ⟨ke, hke⟩ := Ex.eqs_f lF hll
                    have hall : rate_Table_All.f F = some (lF, F) := by rw [hlF]; exact if_pos (by have := hfd.2.2; omega)
                    have hlt : F.length < 1000000 := by have := hfd.2.2; omega
                    have HFD := Aside0.mk hfd
                    have HLF := Aside0.mk hlF
                    have HKE := Aside0.mk hke
                    have HALL := Aside0.mk hall
                    have HLT := Aside0.mk hlt
                    clear hfd hlF hke hall hlt hll hF
                    go_wp2_with (first | (go_at_call 16; with_reducible refine (rate_Table_All.calls g F lF F w _ ?sI ?sB HALL.out).mono ?_; (case sI => first | exact HI8.out | exact HI8.out.drewN _); (case sB => first | exact HB5.out | exact pw_below_drewN HB5.out _); rintro e w9 ⟨vA, rfl, hoA, hi9, hb9, hk9⟩; obtain ⟨AA, cA, rfl⟩ := Kd.R_slice hoA; have HR9 : Aside0 (Ex.IsR w w9 g2 F) := ⟨by first | exact Ex.IsR.keep HR8.out HI8.out hk9 | exact Ex.IsR.keep (HR8.out.drewN _) (HI8.out.drewN _) hk9⟩; have HOA := Aside0.mk hoA; clear hoA; have HI9 := Aside0.mk hi9; have HB9 := Aside0.mk hb9; clear hi9 hb9 hk9)| (go_at_call 27; with_reducible refine (Ex.all (w0 := w) (E := F) ?sR ?sB HLT.out).mono ?_; (case sR => first | exact HR9.out | exact HR9.out.drewN _); (case sB => first | exact HB9.out | exact pw_below_drewN HB9.out _); rintro e w10 ⟨vB, rfl, hoB, hbB⟩; rw [← HLF.out] at hoB; obtain ⟨AB, cB, rfl⟩ := Kd.R_slice hoB; have HI10 : Aside0 (IsS65 w w10 g F) := ⟨by first | exact HI9.out.below hbB | exact (HI9.out.drewN _).below hbB⟩; have HR10 : Aside0 (Ex.IsR w w10 g2 F) := ⟨by first | exact HR9.out.below hbB | exact (HR9.out.drewN _).below hbB⟩; have HB10 : Aside0 (Below w.heap.size w w10) := ⟨by first | exact below_step HB9.out hbB | exact below_step (pw_below_drewN HB9.out _) hbB⟩; have HCA : Aside0 (Kd.C k29 w10 AA lF.length lF ∧ lF.length ≤ cA) := ⟨by first | exact ⟨(Kd.R_reads' (Kd.R_below HOA.out hbB)).2.2, (Kd.R_reads' HOA.out).2.1⟩ | exact ⟨(Kd.R_reads' (Kd.R_below (Kd.R_drewN HOA.out _) hbB)).2.2, (Kd.R_reads' HOA.out).2.1⟩⟩; have HCB := Aside0.mk hoB; clear hoB hbB HOA)| (go_at_call 26; refine (gimbalref0_EqSubs.calls ke AA cA lF AB cB lF true _ ?q1 ?q2 ?q3 ?q4 HKE.out).mono ?_; (case q1 => exact HCA.out.1); (case q2 => exact HCA.out.2); (case q3 => exact (Kd.R_reads' HCB.out).2.2); (case q4 => exact (Kd.R_reads' HCB.out).2.1); rintro e w11 ⟨rfl, ne, rfl⟩))
                    refine Cu.handed (60 - (i + 1)) (by have := HK.out; omega) (by assumption) ?_ (by kernel_rfl) (by kernel_rfl)
                    try dsimp only [Cu.pick, Cu.rep, Cu.nth]
                    exact ⟨F, i + 1, by rw [Int.natCast_add]; rfl, ⟨by omega⟩, ⟨HFD.out.1⟩, ⟨HFD.out.2.1⟩, ⟨HFD.out.2.2⟩, ⟨HI10.out.drewN _⟩, ⟨HR10.out.drewN _⟩, ⟨pw_below_drewN HB10.out _⟩⟩
    · have hx1 : (i : Int) < (n : Int) := by omega
      have hx2 : ¬ (i : Int) < 60 := by omega
      clear hi h60
      obtain ⟨kw, hkw⟩ := Ex.wakes_f
      have HKW := Aside0.mk hkw
      clear hkw
      go_wp2_with (go_at_call 14; refine (gimballaw27_wakes.calls kw true _ HKW.out).mono ?_; rintro e w3 ⟨rfl, hb⟩; have HB2 := Aside0.mk (below_step HB.out hb); clear hb)
      go_ret
      exact ⟨rfl, HB2.out⟩
  · have hx1 : ¬ (i : Int) < (n : Int) := by omega
    clear hi
    obtain ⟨kw, hkw⟩ := Ex.wakes_f
    have HKW := Aside0.mk hkw
    clear hkw
    go_wp2_with (go_at_call 14; refine (gimballaw27_wakes.calls kw true _ HKW.out).mono ?_; rintro e w3 ⟨rfl, hb⟩; have HB2 := Aside0.mk (below_step HB.out hb); clear hb)
    go_ret
    exact ⟨rfl, HB2.out⟩

end Go.Proofs.Ytfdfnmlbmijdjaa.PRateExact
