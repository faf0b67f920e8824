/-
  The pure law of MedianExact: the window and its middles are what the page says, or refused.
  No conditions.
-/
import Derived.Test.YtbicnidbffibbaaSpecMedianExact
namespace Go.Proofs.Ytbicnidbffibbaa.Pure
open Go.RowKit Go.Proofs.Ytbicnidbffibbaa Go.Proofs.Ytbicnidbffibbaa.PMedianExact Go.Proofs.YtbicnidbffibbaaW.PrintWords Go.Proofs.YtbicnidbffibbaaW.PrintLast Go.Proofs.YtbicnidbffibbaaW.PrintMore
theorem w64 {x : Int} (h : -9223372036854775808 ≤ x) (h2 : x < 9223372036854775808) : wrap64 x = x := by
  unfold wrap64
  omega
theorem w64s (n : Nat) (h : n < 9223372036854775807) : wrap64 ((n : Int) + 1) = ((n + 1 : Nat) : Int) := by
  rw [w64 (by omega) (by omega)]
  omega
theorem gdMay (x y z : Int) : gimbalref3_May.f x y z = some (Md.gd3 x y z) := by
  have h1 : ∀ a, gimbalref1_May.f a = some (Md.gd1 a) := by
    intro a
    unfold gimbalref1_May.f Md.gd1
    by_cases h : a > (-35184372088832)
    · rw [if_pos h]
      congr 1
      rw [decide_eq_decide]
      omega
    · rw [if_neg h]
      congr 1
      symm
      rw [decide_eq_false_iff_not]
      omega
  unfold gimbalref3_May.f Md.gd3
  simp only [h1, Option.bind_some]
  cases Md.gd1 x <;> cases Md.gd1 y <;> simp
theorem fxGood (a : Int) : fx_Good.f a = some (Md.gd1 a) := by
  unfold fx_Good.f Md.gd1
  by_cases h : a > (-35184372088832)
  · rw [if_pos h]
    congr 1
    rw [decide_eq_decide]
    omega
  · rw [if_neg h]
    congr 1
    symm
    rw [decide_eq_false_iff_not]
    omega
theorem fxAll_at (x y z : Int) (k : Nat) : fx_All.f (k + 4) [x, y, z] = some (Md.gd3 x y z) := by
  have e1 : wrap64 (0 + 1) = 1 := by rw [w64 (by decide) (by decide)]; rfl
  have e2 : wrap64 (1 + 1) = 2 := by rw [w64 (by decide) (by decide)]; rfl
  have e3 : wrap64 (2 + 1) = 3 := by rw [w64 (by decide) (by decide)]; rfl
  unfold fx_All.f
  simp only [fx_All.l0, List.length_cons, List.length_nil, fxGood, Option.bind_some]
  simp only [rd, e1, e2, e3]
  unfold Md.gd3
  cases h1 : Md.gd1 x <;> cases h2 : Md.gd1 y <;> cases h3 : Md.gd1 z <;> simp [h1, h2, h3]
theorem vecGood_ev (x y z : Int) : Ev (fun k => vec_Good.f k x y z) (Md.gd3 x y z) :=
  ⟨4, fun k hk => by
    obtain ⟨m, rfl⟩ : ∃ m, k = m + 4 := ⟨k - 4, by omega⟩
    show (fx_All.f (m + 4) [x, y, z]).bind (fun t => some t) = some (Md.gd3 x y z)
    rw [fxAll_at]
    rfl⟩
theorem take_good (l : List S25) (n x y z : Int) (h1 : 1 ≤ n) (h7 : n ≤ 7) (ho : n.tmod 2 ≠ 0) (hl : (l.length : Int) ≤ n) (hg : Md.gd3 x y z = true) (ha : l.any (fun v => !gdS v) = false) (W : List S25)
    (hW : W = (l ++ [(⟨x, y, z⟩ : S25)]).drop ((l.length + 1) - n.toNat)) :
    Ev (fun k => median_Take.f k l n x y z) (W, Md.midOf (W.map S25.f0), Md.midOf (W.map S25.f1), Md.midOf (W.map S25.f2), 0) := by
  have hWl : 0 < W.length ∧ W.length ≤ 7 := by
    rw [hW, List.length_drop, List.length_append, List.length_singleton]
    omega
  have hm : mx 0 (wrap64 (((l ++ [(⟨x, y, z⟩ : S25)]).length : Int) - n)) = (((l.length + 1) - n.toNat : Nat) : Int) := by
    rw [List.length_append, List.length_singleton, w64 (by omega) (by omega)]
    unfold mx
    split <;> omega
  have hj : Ev (fun k => median_Take.j0 k l n false x y z) (W, Md.midOf (W.map S25.f0), Md.midOf (W.map S25.f1), Md.midOf (W.map S25.f2), 0) := by
    refine Ev.step (f := fun _ => some _) (fun k => ?_) (Ev.now _)
    simp only [median_Take.j0, api_Vec_20.f]
    rw [if_neg (by simp), if_pos (by omega), Option.bind_some, Option.bind_some, if_pos (by simp; omega), Option.bind_some, hm, if_pos (by omega), if_pos (by rw [List.length_append, List.length_singleton]; omega), Int.toNat_natCast, ← hW, Option.bind_some]
    unfold median_middle_0.f median_middle_1.f median_middle_2.f
    simp only [if_pos hWl.1, if_pos hWl.2, Option.bind_some]
  refine Ev.congr (f := fun k => (vec_Good.f k x y z).bind fun t => (if t = true then ((slices_ContainsFunc_1.f l).bind fun t115 => (median_Take.j0 k l n t115 x y z)) else (median_Take.j0 k l n true x y z))) (fun k => ?_) ?_
  · unfold median_Take.f
    rw [if_neg (by omega), if_neg (by omega), if_neg ho, if_neg (by omega)]
  · refine Ev.bind (vecGood_ev x y z) ?_
    simp only [hg, if_true, slices_ContainsFunc_1.f, ha, Option.bind_some]
    exact hj
theorem rdS_some (l : List S25) (i : Nat) (h : i < l.length) : rd_T25 l (i : Int) = l[i] := by
  unfold rd_T25
  rw [Int.toNat_natCast, List.getD_eq_getElem?_getD, List.getElem?_eq_getElem h]
  rfl
theorem vecs_loop (l : List S25) (hl : l.length ≤ 9223372036854775807) (d : Nat) : ∀ i : Nat, i + d = l.length → Ev (fun k => gimbalref10_Vecs.l0 k l (i : Int)) ((l.drop i).all gdS) := by
  induction d with
  | zero =>
    intro i hi
    refine Ev.step (f := fun _ => some _) (fun k => ?_) (Ev.now _)
    simp only [gimbalref10_Vecs.l0]
    rw [if_neg (by omega), List.drop_eq_nil_of_le (by omega)]
    rfl
  | succ d ih =>
    intro i hi
    have hlt : i < l.length := by omega
    have hnext := ih (i + 1) (by omega)
    rw [← w64s i (by omega)] at hnext
    rw [List.drop_eq_getElem_cons hlt, List.all_cons]
    by_cases hg : gdS l[i] = true
    · rw [hg, Bool.true_and]
      refine Ev.step (fun k => ?_) hnext
      simp only [gimbalref10_Vecs.l0]
      rw [if_pos (by omega), if_pos (by omega), rdS_some l i hlt, gdMay, Option.bind_some, if_pos (c := Md.gd3 l[i].f0 l[i].f1 l[i].f2 = true) hg]
    · rw [Bool.eq_false_iff.2 hg, Bool.false_and]
      refine Ev.step (f := fun _ => some false) (fun k => ?_) (Ev.now _)
      simp only [gimbalref10_Vecs.l0]
      rw [if_pos (by omega), if_pos (by omega), rdS_some l i hlt, gdMay, Option.bind_some, if_neg (c := Md.gd3 l[i].f0 l[i].f1 l[i].f2 = true) hg]
theorem vecs_ev (l : List S25) (hl : l.length ≤ 9223372036854775807) : Ev (fun k => gimbalref10_Vecs.f k l) (l.all gdS) := by
  have h := vecs_loop l hl l.length 0 (by omega)
  rw [List.drop_zero] at h
  exact h
theorem may_ev (l : List S25) (hl : l.length ≤ 9223372036854775807) (n x y z : Int) : Ev (fun k => gimballaw13_may.f k l n x y z) (decide (n = 1 ∨ n = 3 ∨ n = 5 ∨ n = 7) && (decide ((l.length : Int) ≤ n) && (l.all gdS && Md.gd3 x y z))) := by
  have tail : Ev (fun k => if (l.length : Int) ≤ n then ((gimbalref10_Vecs.f k l).bind fun t => (if t = true then ((gimbalref3_May.f x y z).bind fun u => (some u)) else (some false))) else (some false)) (decide ((l.length : Int) ≤ n) && (l.all gdS && Md.gd3 x y z)) := by
    by_cases h : (l.length : Int) ≤ n
    · rw [decide_eq_true h, Bool.true_and]
      refine Ev.congr (f := fun k => (gimbalref10_Vecs.f k l).bind fun t => (if t = true then ((gimbalref3_May.f x y z).bind fun u => (some u)) else (some false))) (fun k => by rw [if_pos h]) ?_
      refine Ev.bind (vecs_ev l hl) ?_
      cases l.all gdS
      · exact Ev.now _
      · simp only [if_true, gdMay, Option.bind_some, Bool.true_and]
        exact Ev.now _
    · rw [decide_eq_false h, Bool.false_and]
      exact Ev.congr (f := fun _ => some false) (fun k => by rw [if_neg h]) (Ev.now _)
  unfold gimballaw13_may.f
  by_cases h1 : n = 1
  · rw [decide_eq_true (.inl h1), Bool.true_and]
    exact Ev.congr (fun k => by rw [if_pos h1]) tail
  by_cases h3 : n = 3
  · rw [decide_eq_true (.inr (.inl h3)), Bool.true_and]
    exact Ev.congr (fun k => by rw [if_neg h1, if_pos h3]) tail
  by_cases h5 : n = 5
  · rw [decide_eq_true (.inr (.inr (.inl h5))), Bool.true_and]
    exact Ev.congr (fun k => by rw [if_neg h1, if_neg h3, if_pos h5]) tail
  by_cases h7 : n = 7
  · rw [decide_eq_true (.inr (.inr (.inr h7))), Bool.true_and]
    exact Ev.congr (fun k => by rw [if_neg h1, if_neg h3, if_neg h5, if_pos h7]) tail
  rw [decide_eq_false (by omega), Bool.false_and]
  exact Ev.congr (f := fun _ => some false) (fun k => by rw [if_neg h1, if_neg h3, if_neg h5, if_neg h7]) (Ev.now _)
theorem wakes_ev : Ev (fun k => gimballaw13_wakes.f k) true := Ev.of (gimballaw13_wakes.mono) (k := 10) (by decide +kernel)
abbrev SV := S25
theorem rdI_some (l : List Int) (i : Nat) (h : i < l.length) : rd l (i : Int) = l[i] := by
  unfold rd
  rw [Int.toNat_natCast, List.getD_eq_getElem?_getD, List.getElem?_eq_getElem h]
  rfl
theorem countP_le_split (a : Int) (l : List Int) : l.countP (fun b => decide (b ≤ a)) = l.countP (fun b => decide (b < a)) + l.countP (fun b => decide (b = a)) := by
  induction l with
  | nil => rfl
  | cons x l ih =>
    rw [List.countP_cons, List.countP_cons, List.countP_cons, ih]
    by_cases h1 : x < a
    · rw [if_pos (by simp; omega), if_pos (by simpa using h1), if_neg (by simp; omega)]; omega
    by_cases h2 : x = a
    · rw [if_pos (by simp; omega), if_neg (by simpa using h1), if_pos (by simpa using h2)]; omega
    rw [if_neg (by simp; omega), if_neg (by simpa using h1), if_neg (by simpa using h2)]; omega
theorem mid_inner (L : List Int) (hL : L.length < 1000) (K : Int) (i : Nat) (hi : i < L.length) (a : Int) (ha : rd L (i : Int) = a) (r : Int) (B S : Nat)
    (hend : Ev (fun k => if (B : Int) ≤ K then (if K < wrap64 ((B : Int) + (S : Int)) then (if 0 ≤ (i : Int) then (if (i : Int) < (L.length : Int) then (some (rd L (i : Int))) else (none)) else (none)) else (gimbalref10_middle.l0 k L K (wrap64 ((i : Int) + 1)))) else (gimbalref10_middle.l0 k L K (wrap64 ((i : Int) + 1)))) r) (d : Nat) :
    ∀ j b s : Nat, j + d = L.length → b ≤ j → s ≤ j → b + (L.drop j).countP (fun x => decide (x < a)) = B → s + (L.drop j).countP (fun x => decide (x = a)) = S → Ev (fun k => gimbalref10_middle.l1 k L K (i : Int) (b : Int) (s : Int) (j : Int)) r := by
  induction d with
  | zero =>
    intro j b s hj _ _ hb hs
    rw [List.drop_eq_nil_of_le (by clear hb hs; omega)] at hb hs
    simp only [List.countP_nil, Nat.add_zero] at hb hs
    subst hb hs
    refine Ev.step (fun k => ?_) hend
    simp only [gimbalref10_middle.l1]
    rw [if_neg (c := (j : Int) < (L.length : Int)) (by omega)]
  | succ d ih =>
    intro j b s hj hbj hsj hb hs
    have hlt : j < L.length := by clear hb hs; omega
    have e1 : wrap64 ((j : Int) + 1) = ((j + 1 : Nat) : Int) := w64s j (by clear hb hs; omega)
    have e2 : wrap64 ((b : Int) + 1) = ((b + 1 : Nat) : Int) := w64s b (by clear hb hs; omega)
    have e3 : wrap64 ((s : Int) + 1) = ((s + 1 : Nat) : Int) := w64s s (by clear hb hs; omega)
    have g1 : (j : Int) < (L.length : Int) := by clear hb hs; omega
    have g2 : (i : Int) < (L.length : Int) := by clear hb hs; omega
    have g3 : 0 ≤ (j : Int) := by clear hb hs; omega
    have g4 : 0 ≤ (i : Int) := by clear hb hs; omega
    have g5 : j + 1 + d = L.length := by clear hb hs; omega
    have hr := rdI_some L j hlt
    obtain ⟨c, hc⟩ : ∃ c, c = L[j] := ⟨_, rfl⟩
    rw [List.drop_eq_getElem_cons hlt, List.countP_cons, ← hc] at hb hs
    rw [← hc] at hr
    clear hc
    by_cases h1 : c < a
    · rw [if_pos (decide_eq_true h1)] at hb
      rw [if_neg (by rw [decide_eq_true_iff]; exact Int.ne_of_lt h1)] at hs
      refine Ev.step (fun k => ?_) (ih (j + 1) (b + 1) s g5 (Nat.succ_le_succ hbj) (Nat.le_succ_of_le hsj) (by rw [← hb, Nat.add_assoc, Nat.add_comm 1]) hs)
      simp only [gimbalref10_middle.l1]
      rw [if_pos g1, if_pos g3, if_pos g4, if_pos g2, hr, ha, if_pos h1, if_neg (Int.ne_of_lt h1), e1, e2]
    · rw [if_neg (by rw [decide_eq_true_iff]; exact h1)] at hb
      by_cases h2 : c = a
      · rw [if_pos (decide_eq_true h2)] at hs
        refine Ev.step (fun k => ?_) (ih (j + 1) b (s + 1) g5 (Nat.le_succ_of_le hbj) (Nat.succ_le_succ hsj) hb (by rw [← hs, Nat.add_assoc, Nat.add_comm 1]))
        simp only [gimbalref10_middle.l1]
        rw [if_pos g1, if_pos g3, if_pos g4, if_pos g2, hr, ha, if_neg h1, if_pos h2, e1, e3]
      · rw [if_neg (by rw [decide_eq_true_iff]; exact h2)] at hs
        refine Ev.step (fun k => ?_) (ih (j + 1) b s g5 (Nat.le_succ_of_le hbj) (Nat.le_succ_of_le hsj) hb hs)
        simp only [gimbalref10_middle.l1]
        rw [if_pos g1, if_pos g3, if_pos g4, if_pos g2, hr, ha, if_neg h1, if_neg h2, e1]
theorem mid_outer (L : List Int) (hL : L.length < 1000) (d : Nat) : ∀ i : Nat, i + d = L.length →
    Ev (fun k => gimbalref10_middle.l0 k L (((L.length - 1) / 2 : Nat) : Int) (i : Int)) (((L.drop i).find? fun a => decide (L.countP (fun b => decide (b < a)) ≤ (L.length - 1) / 2) && decide ((L.length - 1) / 2 < L.countP (fun b => decide (b ≤ a)))).getD 0) := by
  induction d with
  | zero =>
    intro i hi
    rw [List.drop_eq_nil_of_le (by omega)]
    refine Ev.step (f := fun _ => some 0) (fun k => ?_) (Ev.now _)
    simp only [gimbalref10_middle.l0]
    rw [if_neg (by omega)]
  | succ d ih =>
    intro i hi
    have hlt : i < L.length := by omega
    have hnext := ih (i + 1) (by omega)
    rw [← w64s i (by omega)] at hnext
    rw [List.drop_eq_getElem_cons hlt, List.find?_cons]
    have hB : L.countP (fun x => decide (x < L[i])) ≤ L.length := List.countP_le_length
    have hS : L.countP (fun x => decide (x = L[i])) ≤ L.length := List.countP_le_length
    have hsp := countP_le_split L[i] L
    have hw : wrap64 (((L.countP (fun x => decide (x < L[i])) : Nat) : Int) + ((L.countP (fun x => decide (x = L[i])) : Nat) : Int)) = ((L.countP (fun b => decide (b ≤ L[i])) : Nat) : Int) := by
      rw [w64 (by omega) (by omega), hsp]
      omega
    refine Ev.step (f := fun k => gimbalref10_middle.l1 k L (((L.length - 1) / 2 : Nat) : Int) (i : Int) ((0 : Nat) : Int) ((0 : Nat) : Int) ((0 : Nat) : Int)) (fun k => ?_) (mid_inner L hL _ i hlt L[i] (rdI_some L i hlt) _ (L.countP (fun x => decide (x < L[i]))) (L.countP (fun x => decide (x = L[i]))) ?_ L.length 0 0 0 (by omega) (by omega) (by omega) (by rw [List.drop_zero, Nat.zero_add]) (by rw [List.drop_zero, Nat.zero_add]))
    · simp only [gimbalref10_middle.l0]
      rw [if_pos (by omega)]
      rfl
    rw [hw]
    by_cases h1 : L.countP (fun b => decide (b < L[i])) ≤ (L.length - 1) / 2
    · by_cases h2 : (L.length - 1) / 2 < L.countP (fun b => decide (b ≤ L[i]))
      · rw [decide_eq_true h1, decide_eq_true h2]
        refine Ev.congr (f := fun _ => some L[i]) (fun k => ?_) (Ev.now _)
        rw [if_pos (by omega), if_pos (by omega), if_pos (by omega), if_pos (by omega), rdI_some L i hlt]
      · rw [decide_eq_true h1, decide_eq_false h2]
        refine Ev.congr (fun k => ?_) hnext
        rw [if_pos (by omega), if_neg (by omega)]
    · rw [decide_eq_false h1]
      refine Ev.congr (fun k => ?_) hnext
      rw [if_neg (by omega)]
theorem mid_ev (L : List Int) (h0 : 0 < L.length) (hL : L.length < 1000) : Ev (fun k => gimbalref10_middle.f k L) (Md.midOf L) := by
  have h := mid_outer L hL L.length 0 (by omega)
  rw [List.drop_zero] at h
  refine Ev.congr (fun k => ?_) h
  unfold gimbalref10_middle.f
  have e : wrap64 (Int.tdiv (wrap64 ((L.length : Int) - 1)) 2) = (((L.length - 1) / 2 : Nat) : Int) := by
    rw [w64 (x := (L.length : Int) - 1) (by omega) (by omega), Int.tdiv_eq_ediv_of_nonneg (by omega), w64 (by omega) (by omega)]
    omega
  rw [e]
  rfl
theorem copy_loop (l : List SV) (hl : l.length < 1000) (d : Nat) : ∀ (i : Nat) (acc : List SV), i + d = l.length → acc.length = i → Ev (fun k => gimbalref0_CopyVecs.l0 k l acc (i : Int)) (acc ++ l.drop i) := by
  induction d with
  | zero =>
    intro i acc hi ha
    rw [List.drop_eq_nil_of_le (by omega), List.append_nil]
    refine Ev.step (f := fun _ => some acc) (fun k => ?_) (Ev.now _)
    simp only [gimbalref0_CopyVecs.l0]
    rw [if_neg (by omega)]
  | succ d ih =>
    intro i acc hi ha
    have hlt : i < l.length := by omega
    have h := ih (i + 1) (acc ++ [l[i]]) (by omega) (by rw [List.length_append, ha]; rfl)
    rw [List.append_assoc, List.singleton_append, ← List.drop_eq_getElem_cons hlt] at h
    refine Ev.step (fun k => ?_) h
    simp only [gimbalref0_CopyVecs.l0]
    rw [if_pos (by omega), if_pos (by omega), if_pos (by omega), rdS_some l i hlt, w64s i (by omega)]
theorem copy_ev (l : List SV) (hl : l.length < 1000) : Ev (fun k => gimbalref0_CopyVecs.f k l) l := by
  have h := copy_loop l hl l.length 0 [] (by omega) rfl
  rw [List.drop_zero, List.nil_append] at h
  exact h
theorem same3 (a b c : Int) : (!(a == a) || (!(b == b) || (!(c == c)))) = false := by simp
theorem eq_loop (l : List SV) (hl : l.length < 1000) (d : Nat) : ∀ i : Nat, i + d = l.length → Ev (fun k => gimbalref0_EqVecs.l0 k l l (i : Int)) true := by
  induction d with
  | zero =>
    intro i hi
    refine Ev.step (f := fun _ => some true) (fun k => ?_) (Ev.now _)
    simp only [gimbalref0_EqVecs.l0]
    rw [if_neg (by omega)]
  | succ d ih =>
    intro i hi
    refine Ev.step (fun k => ?_) (ih (i + 1) (by omega))
    simp only [gimbalref0_EqVecs.l0]
    rw [if_pos (by omega), if_pos (by omega), if_pos (by omega), same3, if_neg (by simp), w64s i (by omega)]
theorem eq_ev (l : List SV) (hl : l.length < 1000) : Ev (fun k => gimbalref0_EqVecs.f k l l) true := by
  refine Ev.congr (f := fun k => gimbalref0_EqVecs.l0 k l l ((0 : Nat) : Int)) (fun k => ?_) (eq_loop l hl l.length 0 (by omega))
  simp only [gimbalref0_EqVecs.f]
  rw [if_pos trivial]
  rfl
theorem vec_loop (d : Nat) : ∀ (i : Nat) (l : List SV), l.length < 1000 → i + d = l.length → Ev (fun k => gimballaw0_Vecs.l0 k l (i : Int)) () := by
  induction d with
  | zero =>
    intro i l hl hi
    refine Ev.step (f := fun _ => some ()) (fun k => ?_) (Ev.now _)
    simp only [gimballaw0_Vecs.l0]
    rw [if_neg (by omega), if_pos (by omega)]
  | succ d ih =>
    intro i l hl hi
    refine Ev.step (fun k => ?_) (ih (i + 1) (l.set i (⟨(-77), 0, 0⟩ : SV)) (by rw [List.length_set]; omega) (by rw [List.length_set]; omega))
    simp only [gimballaw0_Vecs.l0]
    rw [if_pos (by omega), if_pos (by omega), Int.toNat_natCast, w64s i (by omega)]
theorem vec_ev (l : List SV) (hl : l.length < 1000) : Ev (fun k => gimballaw0_Vecs.f k l) () := vec_loop l.length 0 l hl (by omega)
theorem coll_loop (W : List SV) (h0 : 0 < W.length) (hl : W.length < 1000) (d : Nat) : ∀ (i : Nat), i + d = W.length →
    Ev (fun k => gimbalref10_Median.l0 k W ((W.take i).map S25.f0) ((W.take i).map S25.f1) ((W.take i).map S25.f2) (i : Int)) (W, Md.midOf (W.map S25.f0), Md.midOf (W.map S25.f1), Md.midOf (W.map S25.f2)) := by
  induction d with
  | zero =>
    intro i hi
    rw [List.take_of_length_le (by omega)]
    refine Ev.step (f := fun k => ((gimbalref10_middle.f k (W.map S25.f0)).bind fun t162 => ((gimbalref10_middle.f k (W.map S25.f1)).bind fun t163 => ((gimbalref10_middle.f k (W.map S25.f2)).bind fun t164 => (some (W, t162, t163, t164)))))) (fun k => ?_) ?_
    · simp only [gimbalref10_Median.l0]
      rw [if_neg (by omega)]
    · refine Ev.bind (mid_ev _ (by rw [List.length_map]; exact h0) (by rw [List.length_map]; exact hl)) ?_
      refine Ev.bind (mid_ev _ (by rw [List.length_map]; exact h0) (by rw [List.length_map]; exact hl)) ?_
      refine Ev.bind (mid_ev _ (by rw [List.length_map]; exact h0) (by rw [List.length_map]; exact hl)) ?_
      exact Ev.now _
  | succ d ih =>
    intro i hi
    have hlt : i < W.length := by omega
    have e : ∀ f : SV → Int, (W.take (i + 1)).map f = (W.take i).map f ++ [f W[i]] := fun f => by
      rw [List.take_succ_eq_append_getElem hlt, List.map_append]
      rfl
    have hq : ∀ f : SV → Int, ((W.take i).map f).length + [f W[i]].length < 17592186044416 := fun f => by
      rw [List.length_map, List.length_take]
      simp only [List.length_singleton]
      omega
    have h := ih (i + 1) (by omega)
    rw [e, e, e] at h
    refine Ev.step (fun k => ?_) h
    simp only [gimbalref10_Median.l0]
    rw [if_pos (by omega), if_pos (by omega), rdS_some W i hlt]
    simp only [Option.bind_some]
    rw [if_pos (hq _), if_pos (hq _), if_pos (hq _), w64s i (by omega)]
theorem ref_ev (l : List SV) (n x y z : Int) (h1 : 1 ≤ n) (h7 : n ≤ 7) (hl : (l.length : Int) ≤ n) (W : List SV) (hW : W = (l ++ [(⟨x, y, z⟩ : SV)]).drop ((l.length + 1) - n.toNat)) :
    Ev (fun k => gimbalref10_Median.f k l n x y z) (W, Md.midOf (W.map S25.f0), Md.midOf (W.map S25.f1), Md.midOf (W.map S25.f2)) := by
  have hWl : 0 < W.length ∧ W.length ≤ 7 := by
    rw [hW, List.length_drop, List.length_append, List.length_singleton]
    omega
  have hj : Ev (fun k => gimbalref10_Median.j0 k W) (W, Md.midOf (W.map S25.f0), Md.midOf (W.map S25.f1), Md.midOf (W.map S25.f2)) := by
    have h := coll_loop W hWl.1 (by omega) W.length 0 (by omega)
    exact Ev.step (fun k => rfl) h
  unfold gimbalref10_Median.f
  refine Ev.bind (copy_ev l (by omega)) ?_
  refine Ev.congr (fun k => ?_) hj
  have hlen : (l ++ [(⟨x, y, z⟩ : SV)]).length = l.length + 1 := by rw [List.length_append, List.length_singleton]
  rw [Option.bind_some, if_pos (by simp only [List.length_singleton]; omega), Option.bind_some]
  by_cases hg : (((l ++ [(⟨x, y, z⟩ : SV)]).length : Nat) : Int) > n
  · have hw : wrap64 ((((l ++ [(⟨x, y, z⟩ : SV)]).length : Nat) : Int) - n) = (((l.length + 1) - n.toNat : Nat) : Int) := by
      rw [w64 (by omega) (by omega), hlen]
      omega
    rw [if_pos hg, hw, if_pos (by omega), if_pos (by omega), Int.toNat_natCast, hW]
  · rw [if_neg hg, hW, show (l.length + 1) - n.toNat = 0 by omega, List.drop_zero]
theorem take_bad (l : List SV) (n x y z : Int) (h : ¬ ((n = 1 ∨ n = 3 ∨ n = 5 ∨ n = 7) ∧ (l.length : Int) ≤ n ∧ l.all gdS = true ∧ Md.gd3 x y z = true)) :
    Ev (fun k => median_Take.f k l n x y z) ([], 0, 0, 0, 1) := by
  have hj : Ev (fun k => median_Take.j0 k l n true x y z) ([], 0, 0, 0, 1) := by
    refine Ev.step (f := fun _ => some _) (fun k => ?_) (Ev.now _)
    simp only [median_Take.j0, if_true]
  unfold median_Take.f
  by_cases h1 : n < 1
  · exact Ev.congr (fun k => by rw [if_pos h1]) hj
  by_cases h7 : n > 7
  · exact Ev.congr (fun k => by rw [if_neg h1, if_pos h7]) hj
  by_cases h2 : Int.tmod n 2 = 0
  · exact Ev.congr (fun k => by rw [if_neg h1, if_neg h7, if_pos h2]) hj
  by_cases hl : (l.length : Int) > n
  · exact Ev.congr (fun k => by rw [if_neg h1, if_neg h7, if_neg h2, if_pos hl]) hj
  have hn : n = 1 ∨ n = 3 ∨ n = 5 ∨ n = 7 := by
    rw [Int.tmod_eq_emod_of_nonneg (by omega)] at h2
    omega
  refine Ev.congr (f := fun k => (vec_Good.f k x y z).bind fun t => (if t = true then ((slices_ContainsFunc_1.f l).bind fun t115 => (median_Take.j0 k l n t115 x y z)) else (median_Take.j0 k l n true x y z))) (fun k => by rw [if_neg h1, if_neg h7, if_neg h2, if_neg hl]) ?_
  refine Ev.bind (vecGood_ev x y z) ?_
  by_cases hg : Md.gd3 x y z = true
  · have ha : ¬ l.all gdS = true := fun h3 => h ⟨hn, by omega, h3, hg⟩
    have hany : l.any (fun v => !gdS v) = true := by
      rw [List.any_eq_true]
      rw [List.all_eq_true] at ha
      simp only [Classical.not_forall] at ha
      obtain ⟨v, hv, h4⟩ := ha
      exact ⟨v, hv, by simpa using h4⟩
    simp only [hg, if_true, slices_ContainsFunc_1.f, hany, Option.bind_some]
    exact hj
  · simp only [if_neg hg]
    exact hj
section
variable (x0 : List S27) (x3 : Int) (hnext : Ev (fun k => gimballaw13_MedianExact.l0 k x0 (wrap64 (x3 + 1))) true) (l W : List SV) (n x y z r1 r2 r3 : Int)
include hnext
theorem j3_ev (hl : l.length < 1000) (hW : W.length < 1000) : Ev (fun k => gimballaw13_MedianExact.j3 k x0 x3 l W false l n x y z) true := by
  refine Ev.step (f := fun k => ((gimballaw0_Vecs.f k W).bind fun _ => ((gimbalref0_EqVecs.f k l l).bind fun t234 => (if t234 = true then (gimballaw13_MedianExact.l0 k x0 (wrap64 (x3 + 1))) else (some false))))) (fun k => ?_) ?_
  · simp only [gimballaw13_MedianExact.j3]
    rw [if_neg (by simp)]
  · refine Ev.bind (vec_ev W hW) ?_
    refine Ev.bind (eq_ev l hl) ?_
    simp only [if_true]
    exact hnext
theorem j2_ev (hl : l.length < 1000) (hW : W.length < 1000) (e : Int) (ht : Ev (fun k => median_Take.f k l n x y z) (W, r1, r2, r3, e)) : Ev (fun k => gimballaw13_MedianExact.j2 k x0 x3 e W l n x y z r1 r2 r3) true := by
  refine Ev.step (fun k => by simp only [gimballaw13_MedianExact.j2]; rfl) ?_
  refine Ev.bind (copy_ev l hl) ?_
  refine Ev.bind ht ?_
  simp only [gimballaw13_num.f, Option.bind_some, if_true, same3, Bool.false_eq_true, if_false]
  refine Ev.bind (eq_ev W hW) ?_
  simp only [if_true]
  refine Ev.bind (eq_ev l hl) ?_
  exact j3_ev x0 x3 hnext l W n x y z hl hW
end
theorem main_loop (l : List S27) (_hl : l.length ≤ 9223372036854775807) (d : Nat) : ∀ i : Nat, i + d = l.length → Ev (fun k => gimballaw13_MedianExact.l0 k l (i : Int)) true := by
  induction d with
  | zero =>
    intro i hi
    refine Ev.step (f := fun k => gimballaw13_MedianExact.j1 k l i false) (fun k => ?_) (Ev.step (f := fun k => gimballaw13_wakes.f k) (fun k => ?_) wakes_ev)
    · simp only [gimballaw13_MedianExact.l0]
      rw [if_neg (by omega)]
    · simp only [gimballaw13_MedianExact.j1]
      rw [if_neg (by simp)]
      cases gimballaw13_wakes.f k <;> rfl
  | succ d ih =>
    intro i hi
    refine Ev.step (f := fun k => gimballaw13_MedianExact.j1 k l i (decide ((i : Int) < 20))) (fun k => ?_) ?_
    · simp only [gimballaw13_MedianExact.l0]
      rw [if_pos (by omega)]
    by_cases h20 : (i : Int) < 20
    · obtain ⟨p, hp⟩ : ∃ p, p = rd_T27 l i := ⟨_, rfl⟩
      have hnext := ih (i + 1) (by omega)
      rw [← w64s i (by omega)] at hnext
      rw [decide_eq_true h20]
      by_cases h50 : (p.f0.length : Int) > 50
      · refine Ev.step (f := fun _ => some true) (fun k => ?_) (Ev.now _)
        simp only [gimballaw13_MedianExact.j1]
        rw [if_pos trivial, if_pos (by omega), if_pos (by omega), ← hp, if_pos h50]
      · refine Ev.step (f := fun k => ((gimballaw13_may.f k p.f0 p.f1 p.f2.f0 p.f2.f1 p.f2.f2).bind fun t213 => (if t213 = true then ((gimbalref10_Median.f k p.f0 p.f1 p.f2.f0 p.f2.f1 p.f2.f2).bind fun bt214 => (gimballaw13_MedianExact.j2 k l i 0 bt214.1 p.f0 p.f1 p.f2.f0 p.f2.f1 p.f2.f2 bt214.2.1 bt214.2.2.1 bt214.2.2.2)) else (gimballaw13_MedianExact.j2 k l i 1 ([] : List SV) p.f0 p.f1 p.f2.f0 p.f2.f1 p.f2.f2 0 0 0)))) (fun k => ?_) ?_
        · simp only [gimballaw13_MedianExact.j1]
          rw [if_pos trivial, if_pos (by omega), if_pos (by omega), ← hp, if_neg h50]
        · refine Ev.bind (may_ev p.f0 (by omega) p.f1 p.f2.f0 p.f2.f1 p.f2.f2) ?_
          by_cases hm : (p.f1 = 1 ∨ p.f1 = 3 ∨ p.f1 = 5 ∨ p.f1 = 7) ∧ (p.f0.length : Int) ≤ p.f1 ∧ p.f0.all gdS = true ∧ Md.gd3 p.f2.f0 p.f2.f1 p.f2.f2 = true
          · obtain ⟨m1, m2, m3, m4⟩ := hm
            simp only [decide_eq_true m1, decide_eq_true m2, m3, m4, Bool.and_true, if_true]
            have hany : p.f0.any (fun v => !gdS v) = false := by
              rw [List.any_eq_false]
              intro v hv
              have := List.all_eq_true.1 m3 v hv
              simp [this]
            refine Ev.bind (ref_ev p.f0 p.f1 p.f2.f0 p.f2.f1 p.f2.f2 (by omega) (by omega) m2 _ rfl) ?_
            refine j2_ev l i hnext p.f0 _ p.f1 p.f2.f0 p.f2.f1 p.f2.f2 _ _ _ (by omega) (by rw [List.length_drop, List.length_append, List.length_singleton]; omega) 0 ?_
            refine take_good p.f0 p.f1 p.f2.f0 p.f2.f1 p.f2.f2 (by omega) (by omega) ?_ m2 m4 hany _ rfl
            rcases m1 with h | h | h | h <;> rw [h] <;> decide
          · have hf : (decide (p.f1 = 1 ∨ p.f1 = 3 ∨ p.f1 = 5 ∨ p.f1 = 7) && (decide ((p.f0.length : Int) ≤ p.f1) && (p.f0.all gdS && Md.gd3 p.f2.f0 p.f2.f1 p.f2.f2))) = false := by
              rw [Bool.eq_false_iff]
              intro h
              simp only [Bool.and_eq_true, decide_eq_true_eq] at h
              exact hm ⟨h.1, h.2.1, h.2.2.1, h.2.2.2⟩
            simp only [hf, Bool.false_eq_true, if_false]
            exact j2_ev l i hnext p.f0 [] p.f1 p.f2.f0 p.f2.f1 p.f2.f2 0 0 0 (by omega) (by simp) 1 (take_bad p.f0 p.f1 p.f2.f0 p.f2.f1 p.f2.f2 hm)
    · refine Ev.step (f := fun k => gimballaw13_wakes.f k) (fun k => ?_) wakes_ev
      simp only [gimballaw13_MedianExact.j1]
      rw [if_neg (by simpa using h20)]
      cases gimballaw13_wakes.f k <;> rfl
theorem MedianExact : gimballaw13_MedianExact.Pure := by
  intro l ⟨hl, _⟩
  exact (main_loop l (by unfold maxLen at hl; omega) l.length 0 (by omega)).rounds
end Go.Proofs.Ytbicnidbffibbaa.Pure
