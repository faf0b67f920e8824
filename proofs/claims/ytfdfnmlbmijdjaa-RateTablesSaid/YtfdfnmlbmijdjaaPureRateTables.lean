/-
  The pure law of RateTables: any list of subscriptions is added and dropped; the table stays in order.
  No conditions.
-/
import Derived.Test.YtfdfnmlbmijdjaaSpecRateTables
namespace Go.Proofs.Ytfdfnmlbmijdjaa.Pure
open Go.RowKit Go.Proofs.Ytfdfnmlbmijdjaa Go.Proofs.Ytfdfnmlbmijdjaa.PRateTables Go.Proofs.YtfdfnmlbmijdjaaW.PrintWords Go.Proofs.YtfdfnmlbmijdjaaW.PrintLast Go.Proofs.YtfdfnmlbmijdjaaW.PrintMore
theorem w64 {x : Int} (h : -9223372036854775808 ≤ x) (h2 : x < 9223372036854775808) : wrap64 x = x := by
  unfold wrap64
  omega
theorem w64s (n : Nat) (h : n < 9223372036854775807) : wrap64 ((n : Int) + 1) = ((n + 1 : Nat) : Int) := by
  rw [w64 (by omega) (by omega)]
  omega
set_option linter.unusedSimpArgs false
set_option linter.unusedVariables false
theorem maySub_f (a b p q : Int) : gimbalref25_MaySub.f a b p q = some (Rt.maySub a b p q) := by
  unfold gimbalref25_MaySub.f gimbalref25_Client.f gimbalref25_Sensor.f gimbalref25_in.f Rt.maySub
  by_cases h1 : 0 ≤ a <;> by_cases h2 : a < 8 <;> by_cases h3 : 1 ≤ b <;> by_cases h4 : b ≤ 15 <;> by_cases h5 : 1 ≤ p <;> by_cases h6 : p ≤ 1000 <;> by_cases h7 : 0 ≤ q <;> by_cases h8 : q ≤ 60000 <;> simp [*, show (a ≤ 7) = (a < 8) from by rw [eq_iff_iff]; omega]
theorem wakes_ev : Ev (fun k => gimballaw27_wakes.f k) true := by
  refine ⟨3, fun k hk => ?_⟩
  obtain ⟨m, rfl⟩ : ∃ m, k = m + 3 := ⟨k - 3, by omega⟩
  show gimballaw27_wakes.f (m + 3) = some true
  simp [gimballaw27_wakes.f, rate_New.f, rate_Table_Add.f, Rt.maySub, Rt.Tb.add, gimballaw27_num.f, rate_Table_Take.f, Rt.senOk, Rt.timeOk, Rt.takeL, Rt.hit, gimbalref0_EqNumbers.f, gimbalref0_EqNumbers.l0, rd, wrap64]
def told (E : Rt.Tb) : List S29 := E.map (fun x => (⟨x.a, x.b, x.p, x.q⟩ : S29))
theorem told_at (E : Rt.Tb) (i : Nat) (h : i < E.length) : rd_T29 (told E) (i : Int) = ⟨E[i].a, E[i].b, E[i].p, E[i].q⟩ := by
  unfold rd_T29 told
  rw [Int.toNat_natCast, List.getD_eq_getElem?_getD, List.getElem?_map, List.getElem?_eq_getElem h]
  rfl
theorem told_len (E : Rt.Tb) : (told E).length = E.length := List.length_map _
theorem l1_ev (l : List S31) (i n : Int) (E T : Rt.Tb) (a b p q : Int) (hs : Rt.Srt E) (ho : Rt.Own E) (hl : E.length < 1000) (hn : n = (E.length : Int) ∨ (E.length : Int) = wrap64 (n + 1)) (hc : E.countP (Rt.isSub a b p q) = 1) (r : Bool)
    (hj : Ev (fun k => gimballaw27_RateTables.j3 k l i (told E) false T a b p q) r) (d : Nat) : ∀ j : Nat, j + d = E.length → Ev (fun k => gimballaw27_RateTables.l1 k l i n (told E) ((E.take j).countP (Rt.isSub a b p q) : Nat) (j : Int) T a b p q) r := by
  induction d with
  | zero =>
    intro j hj2
    have hjl : j = E.length := by omega
    refine Ev.step (f := fun k => gimballaw27_RateTables.j3 k l i (told E) false T a b p q) (fun k => ?_) hj
    simp only [gimballaw27_RateTables.l1]
    rw [if_neg (by rw [told_len]; omega), hjl, List.take_length, hc, if_pos (show ((1 : Nat) : Int) = 1 from rfl), told_len]
    split
    · rfl
    · rename_i h1
      rcases hn with hn | hn
      · exact absurd hn.symm h1
      · rw [hn, bne_self_eq_false]
  | succ d ih =>
    intro j hj2
    have hlt : j < E.length := by omega
    have hcle : (E.take j).countP (Rt.isSub a b p q) ≤ 1 := by rw [← hc]; exact (List.take_sublist j E).countP_le
    have hnext := ih (j + 1) (by omega)
    rw [List.take_add_one, List.getElem?_eq_getElem hlt, List.countP_append] at hnext
    have e0 : (Rt.isSub a b p q E[j]) = ((((rd_T29 (told E) j).f0) == a && (((rd_T29 (told E) j).f1) == b && (((rd_T29 (told E) j).f2) == p && (((rd_T29 (told E) j).f3) == q))))) := by
      rw [told_at E j hlt]
      rfl
    have w1 : wrap64 ((j : Int) + 1) = ((j + 1 : Nat) : Int) := w64s j (by omega)
    have hord : 0 < j → ¬ ((rd_T29 (told E) (wrap64 ((j : Int) - 1))).f0 > (rd_T29 (told E) j).f0) ∧ ((rd_T29 (told E) (wrap64 ((j : Int) - 1))).f0 = (rd_T29 (told E) j).f0 → ¬ ((rd_T29 (told E) (wrap64 ((j : Int) - 1))).f1 ≥ (rd_T29 (told E) j).f1)) := by
      intro h0
      rw [w64 (by omega) (by omega), show (j : Int) - 1 = ((j - 1 : Nat) : Int) by omega, told_at E j hlt, told_at E (j - 1) (by omega)]
      have h2 := (List.pairwise_iff_getElem.1 hs) (j - 1) j (by omega) hlt (by omega)
      rw [Rt.ltK_iff] at h2
      have h3 := ho E[j] (List.getElem_mem hlt)
      have h4 := ho E[j - 1] (List.getElem_mem (by omega))
      dsimp only
      omega
    have w2 : 0 < j → 0 ≤ wrap64 ((j : Int) - 1) ∧ wrap64 ((j : Int) - 1) < ((told E).length : Int) := by
      intro h0
      rw [w64 (by omega) (by omega), told_len]
      omega
    cases hq : Rt.isSub a b p q E[j] with
    | true =>
      rw [hq] at e0
      have w3 : wrap64 (((E.take j).countP (Rt.isSub a b p q) : Nat) + 1 : Int) = (((E.take j).countP (Rt.isSub a b p q) + List.countP (Rt.isSub a b p q) (some E[j]).toList : Nat) : Int) := by
        rw [w64 (by omega) (by omega)]
        simp [hq]
      rw [← w3, ← w1] at hnext
      refine Ev.step (fun k => ?_) hnext
      simp only [gimballaw27_RateTables.l1]
      rw [if_pos (by rw [told_len]; omega), if_pos (by omega), if_pos e0.symm]
      by_cases h0 : 0 < j
      · rw [if_pos (by omega), if_pos (w2 h0).1, if_pos (w2 h0).2, if_neg (hord h0).1]
        split
        · rename_i h5
          rw [if_neg ((hord h0).2 h5)]
        · rfl
      · rw [if_neg (by omega)]
    | false =>
      rw [hq] at e0
      have w3 : ((E.take j).countP (Rt.isSub a b p q) : Nat) = (E.take j).countP (Rt.isSub a b p q) + List.countP (Rt.isSub a b p q) (some E[j]).toList := by
        simp [hq]
      rw [← w3, ← w1] at hnext
      refine Ev.step (fun k => ?_) hnext
      simp only [gimballaw27_RateTables.l1]
      rw [if_pos (by rw [told_len]; omega), if_pos (by omega), if_neg (by rw [← e0]; decide)]
      by_cases h0 : 0 < j
      · rw [if_pos (by omega), if_pos (w2 h0).1, if_pos (w2 h0).2, if_neg (hord h0).1]
        split
        · rename_i h5
          rw [if_neg ((hord h0).2 h5)]
        · rfl
      · rw [if_neg (by omega)]
theorem l2_ev (d : Nat) : ∀ s : Nat, s + d = 17 → 1 ≤ s → Ev (fun k => gimballaw27_RateTables.l2 k (s : Int) []) true := by
  induction d with
  | zero =>
    intro s hs _
    refine Ev.step (f := fun k => (gimballaw27_wakes.f k).bind fun t => some t) (fun k => ?_) (Ev.bind wakes_ev (Ev.now true))
    simp only [gimballaw27_RateTables.l2]
    rw [if_neg (by omega)]
    rfl
  | succ d ih =>
    intro s hs h1
    have hnext := ih (s + 1) (by omega) (by omega)
    rw [← w64s s (by omega)] at hnext
    refine Ev.step (fun k => ?_) hnext
    simp only [gimballaw27_RateTables.l2]
    rw [if_pos (by omega)]
    have hm : ((Rt.senOk (s : Int) || decide ((s : Int) = 16)) && Rt.timeOk 5) = true := by
      rw [show Rt.timeOk 5 = true from rfl, Bool.and_true, Bool.or_eq_true, decide_eq_true_eq]
      unfold Rt.senOk
      rw [Bool.and_eq_true, decide_eq_true_eq, decide_eq_true_eq]
      omega
    unfold rate_Table_Take.f
    rw [if_pos (by decide), hm, if_pos rfl, Option.bind_some]
    rfl
theorem main_loop (l : List S31) (hl : l.length ≤ 9223372036854775807) (d : Nat) : ∀ (i : Nat) (E : Rt.Tb), i + d = 60 → Rt.Srt E → Rt.Own E → E.length ≤ i → Ev (fun k => gimballaw27_RateTables.l0 k l (i : Int) E) true := by
  have hend : ∀ (i : Int) (E : Rt.Tb), Ev (fun k => gimballaw27_RateTables.j1 k l i false E) true := fun i E => by
    refine Ev.step (fun k => ?_) (l2_ev 16 1 rfl (Nat.le_refl _))
    simp only [gimballaw27_RateTables.j1]
    rw [if_neg (by decide)]
    rfl
  induction d with
  | zero =>
    intro i E hi hs ho hE
    refine Ev.step (fun k => ?_) (hend i E)
    simp only [gimballaw27_RateTables.l0]
    split
    · rw [decide_eq_false (by omega)]
    · rfl
  | succ d ih =>
    intro i E hi hs ho hE
    by_cases hil : i < l.length
    · obtain ⟨x, hx⟩ : ∃ x, x = rd_T31 l i := ⟨_, rfl⟩
      refine Ev.step (f := fun k => gimballaw27_RateTables.j1 k l i true E) (fun k => ?_) ?_
      · simp only [gimballaw27_RateTables.l0]
        rw [if_pos (by omega), decide_eq_true (by omega)]
      cases hm : Rt.maySub x.f1.f0 x.f1.f1 x.f1.f2 x.f1.f3 with
      | false =>
        have hnext := ih (i + 1) E (by omega) hs ho (by omega)
        rw [← w64s i (by omega)] at hnext
        refine Ev.step (fun k => ?_) hnext
        simp only [gimballaw27_RateTables.j1]
        rw [if_pos trivial, if_pos (by omega), if_pos (by omega), ← hx, maySub_f, hm, Option.bind_some, if_neg (by decide)]
      | true =>
        have hlen := Rt.len_add hs x.f1.f0 x.f1.f1 x.f1.f2 x.f1.f3
        have hs2 := Rt.Srt.add hs x.f1.f0 x.f1.f1 x.f1.f2 x.f1.f3
        have ho2 := Rt.Own.add ho x.f1.f0 x.f1.f1 x.f1.f2 x.f1.f3
        have hc := Rt.count_add hs ho x.f1.f0 x.f1.f1 x.f1.f2 x.f1.f3
        have hh := Rt.has_add E x.f1.f0 x.f1.f1 x.f1.f2 x.f1.f3
        obtain ⟨F, hF⟩ : ∃ F, F = Rt.Tb.add E x.f1.f0 x.f1.f1 x.f1.f2 x.f1.f3 := ⟨_, rfl⟩
        rw [← hF] at hlen hs2 ho2 hc hh
        have hFl : F.length = E.length ∨ F.length = E.length + 1 := by rw [hlen]; split <;> omega
        have hj : Ev (fun k => gimballaw27_RateTables.j3 k l i (told F) false F x.f1.f0 x.f1.f1 x.f1.f2 x.f1.f3) true := by
          by_cases h3 : (Int.tmod x.f0 3) = 0
          · have hrl := Rt.len_rem hh
            have hnext := ih (i + 1) (Rt.Tb.rem F x.f1.f0 x.f1.f1) (by omega) (Rt.Srt.rem hs2 _ _) (Rt.Own.rem ho2 _ _) (by omega)
            rw [← w64s i (by omega)] at hnext
            refine Ev.step (fun k => ?_) hnext
            simp only [gimballaw27_RateTables.j3]
            rw [if_neg (by decide), if_pos (by omega), if_pos (by omega), ← hx, if_pos h3]
            unfold rate_Table_Drop.f rate_Table_All.f gimballaw27_num.f
            rw [if_pos (by omega), Option.bind_some, if_pos (show (Rt.Tb.rem F x.f1.f0 x.f1.f1).length < 1000000 by omega), Option.bind_some]
            simp only [hh, Rt.has_rem hs2, Rt.rem_none (Rt.has_rem hs2 x.f1.f0 x.f1.f1), Option.bind_some, if_true]
            rw [if_pos (by simp), if_pos (by omega)]
            simp only [Option.bind_some]
            rw [if_pos]
            rw [List.length_map, told_len, w64 (by omega) (by omega)]
            omega
          · have hnext := ih (i + 1) F (by omega) hs2 ho2 (by omega)
            rw [← w64s i (by omega)] at hnext
            refine Ev.step (fun k => ?_) hnext
            simp only [gimballaw27_RateTables.j3]
            rw [if_neg (by decide), if_pos (by omega), if_pos (by omega), ← hx, if_neg h3]
        have h1 := l1_ev l i ((told E).length : Int) F F x.f1.f0 x.f1.f1 x.f1.f2 x.f1.f3 hs2 ho2 (by omega) (by rw [told_len, w64 (by omega) (by omega)]; omega) hc true hj F.length 0 (by omega)
        refine Ev.step (fun k => ?_) h1
        simp only [gimballaw27_RateTables.j1]
        rw [if_pos trivial, if_pos (by omega), if_pos (by omega), ← hx, maySub_f, hm, Option.bind_some, if_pos rfl]
        unfold rate_Table_All.f rate_Table_Add.f gimballaw27_num.f
        rw [if_pos (by omega), Option.bind_some, if_pos (by show E.length < 1000000; omega), hm, if_pos rfl, ← hF]
        simp only [Option.bind_some, if_true]
        rw [if_pos (by omega)]
        rfl
    · refine Ev.step (fun k => ?_) (hend i E)
      simp only [gimballaw27_RateTables.l0]
      rw [if_neg (by omega)]
theorem RateTables : gimballaw27_RateTables.Pure := by
  intro l ⟨hl, _⟩
  refine ((main_loop l (by unfold maxLen at hl; omega) 60 0 [] rfl Rt.Srt.nil Rt.Own.nil (Nat.le_refl _)).rounds).imp fun k hk => ?_
  exact hk
end Go.Proofs.Ytfdfnmlbmijdjaa.Pure
