/-
  The pure law of MedianMiddle: half of a full window is not above its middle, half not below, and in another order the middle is the same.
  No conditions.
-/
import Derived.Test.YtbicnidbffibbaaSpecMedianMiddle
namespace Go.Proofs.Ytbicnidbffibbaa.Pure
open Go.RowKit Go.Proofs.Ytbicnidbffibbaa Go.Proofs.Ytbicnidbffibbaa.PMedianMiddle Go.Proofs.YtbicnidbffibbaaW.PrintWords Go.Proofs.YtbicnidbffibbaaW.PrintLast Go.Proofs.YtbicnidbffibbaaW.PrintMore
theorem w64 {x : Int} (h : -9223372036854775808 ≤ x) (h2 : x < 9223372036854775808) : wrap64 x = x := by
  unfold wrap64
  omega
theorem w64s (n : Nat) (h : n < 9223372036854775807) : wrap64 ((n : Int) + 1) = ((n + 1 : Nat) : Int) := by
  rw [w64 (by omega) (by omega)]
  omega
theorem gdMay (x y z : Int) : gimbalref3_May.f x y z = some (Md.gd3 x y z) := by
  have h1 : ∀ a, gimbalref1_May.f a = some (Md.gd1 a) := by
    intro a
    unfold gimbalref1_May.f Md.gd1
    by_cases h : a > (-35184372088832)
    · rw [if_pos h]
      congr 1
      rw [decide_eq_decide]
      omega
    · rw [if_neg h]
      congr 1
      symm
      rw [decide_eq_false_iff_not]
      omega
  unfold gimbalref3_May.f Md.gd3
  simp only [h1, Option.bind_some]
  cases Md.gd1 x <;> cases Md.gd1 y <;> simp
theorem fxGood (a : Int) : fx_Good.f a = some (Md.gd1 a) := by
  unfold fx_Good.f Md.gd1
  by_cases h : a > (-35184372088832)
  · rw [if_pos h]
    congr 1
    rw [decide_eq_decide]
    omega
  · rw [if_neg h]
    congr 1
    symm
    rw [decide_eq_false_iff_not]
    omega
theorem fxAll_at (x y z : Int) (k : Nat) : fx_All.f (k + 4) [x, y, z] = some (Md.gd3 x y z) := by
  have e1 : wrap64 (0 + 1) = 1 := by rw [w64 (by decide) (by decide)]; rfl
  have e2 : wrap64 (1 + 1) = 2 := by rw [w64 (by decide) (by decide)]; rfl
  have e3 : wrap64 (2 + 1) = 3 := by rw [w64 (by decide) (by decide)]; rfl
  unfold fx_All.f
  simp only [fx_All.l0, List.length_cons, List.length_nil, fxGood, Option.bind_some]
  simp only [rd, e1, e2, e3]
  unfold Md.gd3
  cases h1 : Md.gd1 x <;> cases h2 : Md.gd1 y <;> cases h3 : Md.gd1 z <;> simp [h1, h2, h3]
theorem vecGood_ev (x y z : Int) : Ev (fun k => vec_Good.f k x y z) (Md.gd3 x y z) :=
  ⟨4, fun k hk => by
    obtain ⟨m, rfl⟩ : ∃ m, k = m + 4 := ⟨k - 4, by omega⟩
    show (fx_All.f (m + 4) [x, y, z]).bind (fun t => some t) = some (Md.gd3 x y z)
    rw [fxAll_at]
    rfl⟩
theorem take_good (l : List S25) (n x y z : Int) (h1 : 1 ≤ n) (h7 : n ≤ 7) (ho : n.tmod 2 ≠ 0) (hl : (l.length : Int) ≤ n) (hg : Md.gd3 x y z = true) (ha : l.any (fun v => !gdS v) = false) (W : List S25)
    (hW : W = (l ++ [(⟨x, y, z⟩ : S25)]).drop ((l.length + 1) - n.toNat)) :
    Ev (fun k => median_Take.f k l n x y z) (W, Md.midOf (W.map S25.f0), Md.midOf (W.map S25.f1), Md.midOf (W.map S25.f2), 0) := by
  have hWl : 0 < W.length ∧ W.length ≤ 7 := by
    rw [hW, List.length_drop, List.length_append, List.length_singleton]
    omega
  have hm : mx 0 (wrap64 (((l ++ [(⟨x, y, z⟩ : S25)]).length : Int) - n)) = (((l.length + 1) - n.toNat : Nat) : Int) := by
    rw [List.length_append, List.length_singleton, w64 (by omega) (by omega)]
    unfold mx
    split <;> omega
  have hj : Ev (fun k => median_Take.j0 k l n false x y z) (W, Md.midOf (W.map S25.f0), Md.midOf (W.map S25.f1), Md.midOf (W.map S25.f2), 0) := by
    refine Ev.step (f := fun _ => some _) (fun k => ?_) (Ev.now _)
    simp only [median_Take.j0, api_Vec_20.f]
    rw [if_neg (by simp), if_pos (by omega), Option.bind_some, Option.bind_some, if_pos (by simp; omega), Option.bind_some, hm, if_pos (by omega), if_pos (by rw [List.length_append, List.length_singleton]; omega), Int.toNat_natCast, ← hW, Option.bind_some]
    unfold median_middle_0.f median_middle_1.f median_middle_2.f
    simp only [if_pos hWl.1, if_pos hWl.2, Option.bind_some]
  refine Ev.congr (f := fun k => (vec_Good.f k x y z).bind fun t => (if t = true then ((slices_ContainsFunc_1.f l).bind fun t115 => (median_Take.j0 k l n t115 x y z)) else (median_Take.j0 k l n true x y z))) (fun k => ?_) ?_
  · unfold median_Take.f
    rw [if_neg (by omega), if_neg (by omega), if_neg ho, if_neg (by omega)]
  · refine Ev.bind (vecGood_ev x y z) ?_
    simp only [hg, if_true, slices_ContainsFunc_1.f, ha, Option.bind_some]
    exact hj
theorem rdS_some (l : List S25) (i : Nat) (h : i < l.length) : rd_T25 l (i : Int) = l[i] := by
  unfold rd_T25
  rw [Int.toNat_natCast, List.getD_eq_getElem?_getD, List.getElem?_eq_getElem h]
  rfl
theorem vecs_loop (l : List S25) (hl : l.length ≤ 9223372036854775807) (d : Nat) : ∀ i : Nat, i + d = l.length → Ev (fun k => gimbalref10_Vecs.l0 k l (i : Int)) ((l.drop i).all gdS) := by
  induction d with
  | zero =>
    intro i hi
    refine Ev.step (f := fun _ => some _) (fun k => ?_) (Ev.now _)
    simp only [gimbalref10_Vecs.l0]
    rw [if_neg (by omega), List.drop_eq_nil_of_le (by omega)]
    rfl
  | succ d ih =>
    intro i hi
    have hlt : i < l.length := by omega
    have hnext := ih (i + 1) (by omega)
    rw [← w64s i (by omega)] at hnext
    rw [List.drop_eq_getElem_cons hlt, List.all_cons]
    by_cases hg : gdS l[i] = true
    · rw [hg, Bool.true_and]
      refine Ev.step (fun k => ?_) hnext
      simp only [gimbalref10_Vecs.l0]
      rw [if_pos (by omega), if_pos (by omega), rdS_some l i hlt, gdMay, Option.bind_some, if_pos (c := Md.gd3 l[i].f0 l[i].f1 l[i].f2 = true) hg]
    · rw [Bool.eq_false_iff.2 hg, Bool.false_and]
      refine Ev.step (f := fun _ => some false) (fun k => ?_) (Ev.now _)
      simp only [gimbalref10_Vecs.l0]
      rw [if_pos (by omega), if_pos (by omega), rdS_some l i hlt, gdMay, Option.bind_some, if_neg (c := Md.gd3 l[i].f0 l[i].f1 l[i].f2 = true) hg]
theorem vecs_ev (l : List S25) (hl : l.length ≤ 9223372036854775807) : Ev (fun k => gimbalref10_Vecs.f k l) (l.all gdS) := by
  have h := vecs_loop l hl l.length 0 (by omega)
  rw [List.drop_zero] at h
  exact h
theorem may_ev (l : List S25) (hl : l.length ≤ 9223372036854775807) (n x y z : Int) : Ev (fun k => gimballaw13_may.f k l n x y z) (decide (n = 1 ∨ n = 3 ∨ n = 5 ∨ n = 7) && (decide ((l.length : Int) ≤ n) && (l.all gdS && Md.gd3 x y z))) := by
  have tail : Ev (fun k => if (l.length : Int) ≤ n then ((gimbalref10_Vecs.f k l).bind fun t => (if t = true then ((gimbalref3_May.f x y z).bind fun u => (some u)) else (some false))) else (some false)) (decide ((l.length : Int) ≤ n) && (l.all gdS && Md.gd3 x y z)) := by
    by_cases h : (l.length : Int) ≤ n
    · rw [decide_eq_true h, Bool.true_and]
      refine Ev.congr (f := fun k => (gimbalref10_Vecs.f k l).bind fun t => (if t = true then ((gimbalref3_May.f x y z).bind fun u => (some u)) else (some false))) (fun k => by rw [if_pos h]) ?_
      refine Ev.bind (vecs_ev l hl) ?_
      cases l.all gdS
      · exact Ev.now _
      · simp only [if_true, gdMay, Option.bind_some, Bool.true_and]
        exact Ev.now _
    · rw [decide_eq_false h, Bool.false_and]
      exact Ev.congr (f := fun _ => some false) (fun k => by rw [if_neg h]) (Ev.now _)
  unfold gimballaw13_may.f
  by_cases h1 : n = 1
  · rw [decide_eq_true (.inl h1), Bool.true_and]
    exact Ev.congr (fun k => by rw [if_pos h1]) tail
  by_cases h3 : n = 3
  · rw [decide_eq_true (.inr (.inl h3)), Bool.true_and]
    exact Ev.congr (fun k => by rw [if_neg h1, if_pos h3]) tail
  by_cases h5 : n = 5
  · rw [decide_eq_true (.inr (.inr (.inl h5))), Bool.true_and]
    exact Ev.congr (fun k => by rw [if_neg h1, if_neg h3, if_pos h5]) tail
  by_cases h7 : n = 7
  · rw [decide_eq_true (.inr (.inr (.inr h7))), Bool.true_and]
    exact Ev.congr (fun k => by rw [if_neg h1, if_neg h3, if_neg h5, if_pos h7]) tail
  rw [decide_eq_false (by omega), Bool.false_and]
  exact Ev.congr (f := fun _ => some false) (fun k => by rw [if_neg h1, if_neg h3, if_neg h5, if_neg h7]) (Ev.now _)
theorem mid_pred {xs L : List Int} (hp : L.Perm xs) (hs : ∀ i j (hi : i < j) (hj : j < L.length), L[i] ≤ L[j]) (k : Nat) (hk : k = (xs.length - 1) / 2) (hkl : k < L.length) : xs.countP (fun b => decide (b < L[k])) ≤ (xs.length - 1) / 2 ∧ (xs.length - 1) / 2 < xs.countP (fun b => decide (b ≤ L[k])) := by
  have hlen := hp.length_eq
  obtain ⟨m, hm⟩ : ∃ m, m = L[k] := ⟨_, rfl⟩
  rw [← hm]
  refine ⟨?_, ?_⟩
  · rw [← hp.countP_eq, ← hk]
    conv => lhs; rw [← List.take_append_drop k L]
    rw [List.countP_append]
    have h1 : (L.take k).countP (fun b => decide (b < m)) ≤ k := Nat.le_trans List.countP_le_length (by rw [List.length_take]; omega)
    have h2 : (L.drop k).countP (fun b => decide (b < m)) = 0 := by
      rw [List.countP_eq_zero]
      intro a ha
      obtain ⟨q, hq, rfl⟩ := List.mem_iff_getElem.1 ha
      rw [List.getElem_drop, hm]
      rw [List.length_drop] at hq
      simp only [decide_eq_true_eq]
      rcases Nat.eq_zero_or_pos q with rfl | h0
      · simp
      · have := hs k (k + q) (by omega) (by omega)
        omega
    omega
  · rw [← hp.countP_eq, ← hk]
    have h1 : (L.take (k + 1)).countP (fun b => decide (b ≤ m)) = k + 1 := by
      have : (L.take (k + 1)).countP (fun b => decide (b ≤ m)) = (L.take (k + 1)).length := by
        rw [List.countP_eq_length]
        intro a ha
        obtain ⟨q, hq, rfl⟩ := List.mem_iff_getElem.1 ha
        rw [List.length_take] at hq
        rw [List.getElem_take, hm]
        simp only [decide_eq_true_eq]
        rcases Nat.lt_or_ge q k with h | h
        · exact hs q k h hkl
        · have : q = k := by omega
          subst this
          exact Int.le_refl _
      rw [this, List.length_take]
      omega
    have h2 : (L.take (k + 1)).countP (fun b => decide (b ≤ m)) ≤ L.countP (fun b => decide (b ≤ m)) := List.Sublist.countP_le (List.take_sublist _ _)
    omega
theorem wakes_ev : Ev (fun k => gimballaw13_wakes.f k) true := Ev.of (gimballaw13_wakes.mono) (k := 10) (by decide +kernel)
abbrev SV := S25
/-- The middle of a row that is not empty is one of its numbers; at most half of it lies below, at most half above. -/
theorem mid_has {xs : List Int} (hn : 0 < xs.length) : Md.midOf xs ∈ xs ∧ xs.countP (fun b => decide (b < Md.midOf xs)) ≤ (xs.length - 1) / 2 ∧ (xs.length - 1) / 2 < xs.countP (fun b => decide (b ≤ Md.midOf xs)) := by
  obtain ⟨L, hL⟩ : ∃ L, L = xs.mergeSort (fun a b => decide (a ≤ b)) := ⟨_, rfl⟩
  have hp : L.Perm xs := by rw [hL]; exact List.mergeSort_perm _ _
  have hs : L.Pairwise (fun a b => decide (a ≤ b) = true) := by
    rw [hL]
    exact List.pairwise_mergeSort (fun a b c h1 h2 => by simp only [decide_eq_true_eq] at *; omega) (fun a b => by simp only [Bool.or_eq_true, decide_eq_true_eq]; omega) xs
  have hlen := hp.length_eq
  have hk : (xs.length - 1) / 2 < L.length := by omega
  have hm := Md.mid_sorted hp (fun i j hi hj => by
    have := List.pairwise_iff_getElem.1 hs i j (by omega) hj hi
    simpa using this) _ rfl hk
  have hmem : Md.midOf xs ∈ xs := by rw [hm]; exact hp.mem_iff.1 (List.getElem_mem hk)
  have hc := mid_pred hp (fun i j hi hj => by
    have := List.pairwise_iff_getElem.1 hs i j (by omega) hj hi
    simpa using this) _ rfl hk
  rw [← hm] at hc
  exact ⟨hmem, hc⟩
/-- The middle is the same in another order. -/
theorem mid_perm {xs ys : List Int} (hp : xs.Perm ys) (hn : 0 < xs.length) : Md.midOf xs = Md.midOf ys := by
  obtain ⟨h1, h2, h3⟩ := mid_has (xs := ys) (by rw [← hp.length_eq]; exact hn)
  rw [← hp.countP_eq, ← hp.length_eq] at h2
  rw [← hp.countP_eq, ← hp.length_eq] at h3
  exact Md.midOf_eq (hp.mem_iff.2 h1) h2 h3
section
variable (x0 : List S27) (x3 : Int) (hnext : Ev (fun k => gimballaw13_MedianMiddle.l0 k x0 (wrap64 (x3 + 1))) true) (l : List SV) (n x y z r1 r2 r3 : Int)
include hnext
theorem back_loop (W : List SV) (hn1 : 1 ≤ n) (hn7 : n ≤ 7) (ho : n.tmod 2 ≠ 0) (hW : (W.length : Int) = n) (hg : W.all gdS = true)
    (e1 : r1 = Md.midOf (W.map S25.f0)) (e2 : r2 = Md.midOf (W.map S25.f1)) (e3 : r3 = Md.midOf (W.map S25.f2)) (i : Nat) :
    i < W.length → Ev (fun k => gimballaw13_MedianMiddle.l2 k x0 x3 W (W.drop (i + 1)).reverse (i : Int) l n x y z r1 r2 r3) true := by
  induction i with
  | zero =>
    intro h0
    obtain ⟨w0, W', rfl⟩ : ∃ w0 W', W = w0 :: W' := by
      cases W with
      | nil => simp at h0
      | cons a b => exact ⟨a, b, rfl⟩
    have hg' := hg
    rw [List.all_cons, Bool.and_eq_true] at hg'
    obtain ⟨a, b, c⟩ := w0
    have hb : (W'.reverse).any (fun v => !gdS v) = false := by
      rw [List.any_reverse, List.any_eq_false]
      intro v hv
      have := List.all_eq_true.1 hg'.2 v hv
      simp [this]
    have hperm : (W'.reverse ++ [(⟨a, b, c⟩ : SV)]).Perm (⟨a, b, c⟩ :: W') := by
      have := List.reverse_perm (⟨a, b, c⟩ :: W' : List SV)
      rwa [List.reverse_cons] at this
    have ht := take_good W'.reverse n a b c hn1 hn7 ho (by rw [List.length_reverse]; rw [List.length_cons] at hW; omega) hg'.1 hb (W'.reverse ++ [⟨a, b, c⟩]) (by
      rw [show W'.reverse.length + 1 - n.toNat = 0 by rw [List.length_reverse]; rw [List.length_cons] at hW; omega, List.drop_zero])
    have hne : 0 < (W'.reverse ++ [(⟨a, b, c⟩ : SV)]).length := by simp
    rw [mid_perm (hperm.map _) (by rw [List.length_map]; exact hne), mid_perm (hperm.map S25.f1) (by rw [List.length_map]; exact hne), mid_perm (hperm.map S25.f2) (by rw [List.length_map]; exact hne), ← e1, ← e2, ← e3] at ht
    refine Ev.step (f := fun k => (median_Take.f k W'.reverse n a b c).bind fun bt => ((gimballaw13_num.f bt.2.2.2.2).bind fun t => (if t = 0 then (if (!(bt.2.1 == r1) || (!(bt.2.2.1 == r2) || (!(bt.2.2.2.1 == r3)))) = true then (some false) else (gimballaw13_MedianMiddle.l0 k x0 (wrap64 (x3 + 1)))) else (some false)))) (fun k => ?_) ?_
    · simp only [gimballaw13_MedianMiddle.l2]
      rw [if_neg (by omega), if_pos (by rw [List.length_cons]; omega)]
      rfl
    · refine Ev.bind ht ?_
      simp only [gimballaw13_num.f, Option.bind_some, if_true, beq_self_eq_true, Bool.not_true, Bool.or_false, Bool.false_eq_true, if_false]
      exact hnext
  | succ i ih =>
    intro hi
    have h := ih (by omega)
    have e : (W.drop (i + 1)).reverse = (W.drop (i + 1 + 1)).reverse ++ [W[i + 1]] := by
      rw [List.drop_eq_getElem_cons hi, List.reverse_cons]
    rw [e] at h
    refine Ev.step (fun k => ?_) h
    simp only [gimballaw13_MedianMiddle.l2]
    have e4 : wrap64 (((i + 1 : Nat) : Int) - 1) = (i : Int) := by rw [w64 (by omega) (by omega)]; omega
    rw [if_pos (by omega), if_pos (by omega), if_pos (by omega), if_pos (by rw [List.length_reverse, List.length_drop]; omega), rdS_some W (i + 1) hi, e4]
theorem count_loop (W : List SV) (hn1 : 1 ≤ n) (hn7 : n ≤ 7) (ho : n.tmod 2 ≠ 0) (hW : (W.length : Int) = n) (hg : W.all gdS = true)
    (e1 : r1 = Md.midOf (W.map S25.f0)) (e2 : r2 = Md.midOf (W.map S25.f1)) (e3 : r3 = Md.midOf (W.map S25.f2)) (d : Nat) :
    ∀ i : Nat, i + d = W.length → Ev (fun k => gimballaw13_MedianMiddle.l1 k x0 x3 W (((W.take i).countP (fun v => decide (v.f1 < r2)) : Nat) : Int) (((W.take i).countP (fun v => decide (r2 < v.f1)) : Nat) : Int) (((W.take i).countP (fun v => decide (v.f1 = r2)) : Nat) : Int) (i : Int) l n x y z r1 r2 r3) true := by
  have hb := back_loop x0 x3 hnext l n x y z r1 r2 r3 W hn1 hn7 ho hW hg e1 e2 e3 (W.length - 1) (by omega)
  rw [show W.length - 1 + 1 = W.length by omega, List.drop_length, List.reverse_nil] at hb
  have hlast : wrap64 ((W.length : Int) - 1) = ((W.length - 1 : Nat) : Int) := by rw [w64 (by omega) (by omega)]; omega
  rw [← hlast] at hb
  induction d with
  | zero =>
    intro i hi
    have hi' : i = W.length := by omega
    subst hi'
    rw [List.take_length]
    obtain ⟨hm, hlo, hhi⟩ := mid_has (xs := W.map S25.f1) (by rw [List.length_map]; omega)
    rw [← e2, List.countP_map, List.length_map] at hlo hhi
    rw [← e2] at hm
    have hsame : 0 < W.countP (fun v => decide (v.f1 = r2)) := by
      rw [List.countP_pos_iff]
      obtain ⟨v, hv, he⟩ := List.mem_map.1 hm
      exact ⟨v, hv, by simp [he]⟩
    have hsum : W.countP (fun v => decide (r2 < v.f1)) + W.countP ((fun b => decide (b ≤ r2)) ∘ S25.f1) = W.length := by
      have := List.length_eq_countP_add_countP (fun v : SV => decide (r2 < v.f1)) (l := W)
      rw [this]
      congr 1
      refine List.countP_congr (fun v _ => ?_)
      simp only [Function.comp, decide_eq_true_eq, Int.not_lt]
    have hlo' : W.countP (fun v => decide (v.f1 < r2)) ≤ (W.length - 1) / 2 := hlo
    have ht : wrap64 (Int.tdiv n 2) = n / 2 := by
      rw [Int.tdiv_eq_ediv_of_nonneg (by omega), w64 (by omega) (by omega)]
    have hodd : n % 2 ≠ 0 := by rwa [Int.tmod_eq_emod_of_nonneg (by omega)] at ho
    refine Ev.step (f := fun k => gimballaw13_MedianMiddle.j6 k x0 x3 W false l n x y z r1 r2 r3) (fun k => ?_) (Ev.step (fun k => ?_) hb)
    · simp only [gimballaw13_MedianMiddle.l1]
      rw [if_neg (by omega), if_neg (by omega), ht, if_neg (by omega), decide_eq_false (by omega)]
    · simp only [gimballaw13_MedianMiddle.j6]
      rw [if_neg (by simp)]
  | succ d ih =>
    intro i hi
    have hlt : i < W.length := by omega
    have h := ih (i + 1) (by omega)
    have et : W.take (i + 1) = W.take i ++ [W[i]] := by rw [List.take_succ_eq_append_getElem hlt]
    have b1 : (W.take i).countP (fun v => decide (v.f1 < r2)) ≤ 7 := Nat.le_trans List.countP_le_length (by rw [List.length_take]; omega)
    have b2 : (W.take i).countP (fun v => decide (r2 < v.f1)) ≤ 7 := Nat.le_trans List.countP_le_length (by rw [List.length_take]; omega)
    have b3 : (W.take i).countP (fun v => decide (v.f1 = r2)) ≤ 7 := Nat.le_trans List.countP_le_length (by rw [List.length_take]; omega)
    have s : ∀ c : Nat, c ≤ 7 → wrap64 ((c : Int) + 1) = ((c + 1 : Nat) : Int) := fun c hc => w64s c (by omega)
    rw [et] at h
    simp only [List.countP_append, List.countP_singleton] at h
    obtain ⟨c1, hc1⟩ : ∃ c, c = (W.take i).countP (fun v => decide (v.f1 < r2)) := ⟨_, rfl⟩
    obtain ⟨c2, hc2⟩ : ∃ c, c = (W.take i).countP (fun v => decide (r2 < v.f1)) := ⟨_, rfl⟩
    obtain ⟨c3, hc3⟩ : ∃ c, c = (W.take i).countP (fun v => decide (v.f1 = r2)) := ⟨_, rfl⟩
    rw [← hc1, ← hc2, ← hc3] at h ⊢
    rw [← hc1] at b1
    rw [← hc2] at b2
    rw [← hc3] at b3
    have hi1 := w64s i (by omega)
    have p1 : (i : Int) < (W.length : Int) := Int.ofNat_lt.2 hlt
    have p2 : (0 : Int) ≤ (i : Int) := Int.natCast_nonneg i
    rcases Int.lt_trichotomy W[i].f1 r2 with hv | hv | hv
    · have q1 : ¬ W[i].f1 > r2 := Int.not_lt.2 (Int.le_of_lt hv)
      have q1' : ¬ r2 < W[i].f1 := q1
      have q2 : ¬ W[i].f1 = r2 := Int.ne_of_lt hv
      simp only [hv, q1', q2, decide_true, decide_false, if_true, Bool.false_eq_true, if_false, Nat.add_zero] at h
      rw [← s c1 b1, ← hi1] at h
      refine Ev.step (f := fun k => gimballaw13_MedianMiddle.j5 k x0 x3 W (wrap64 ((c1 : Int) + 1)) c2 c3 i l n x y z r1 r2 r3) (fun k => ?_) (Ev.step (fun k => ?_) h)
      · simp only [gimballaw13_MedianMiddle.l1]
        rw [if_pos p1, if_pos p2, rdS_some W i hlt, if_pos hv]
      · simp only [gimballaw13_MedianMiddle.j5]
        rw [if_pos p2, if_pos p1, rdS_some W i hlt, if_neg q1, if_neg q2]
    · have q1 : ¬ W[i].f1 > r2 := by rw [hv]; exact Int.lt_irrefl _
      have q1' : ¬ r2 < W[i].f1 := q1
      have q2 : ¬ W[i].f1 < r2 := by rw [hv]; exact Int.lt_irrefl _
      simp only [q1', q2, decide_false, Bool.false_eq_true, if_false, Nat.add_zero] at h
      rw [if_pos (decide_eq_true hv), ← s c3 b3, ← hi1] at h
      refine Ev.step (f := fun k => gimballaw13_MedianMiddle.j5 k x0 x3 W c1 c2 c3 i l n x y z r1 r2 r3) (fun k => ?_) (Ev.step (fun k => ?_) h)
      · simp only [gimballaw13_MedianMiddle.l1]
        rw [if_pos p1, if_pos p2, rdS_some W i hlt, if_neg q2]
      · simp only [gimballaw13_MedianMiddle.j5]
        rw [if_pos p2, if_pos p1, rdS_some W i hlt, if_neg q1, if_pos hv]
    · have q1 : ¬ W[i].f1 < r2 := Int.not_lt.2 (Int.le_of_lt hv)
      have q2 : ¬ W[i].f1 = r2 := Int.ne_of_gt hv
      simp only [q1, q2, decide_false, Bool.false_eq_true, if_false, Nat.add_zero] at h
      rw [if_pos (decide_eq_true hv), ← s c2 b2, ← hi1] at h
      refine Ev.step (f := fun k => gimballaw13_MedianMiddle.j5 k x0 x3 W c1 c2 c3 i l n x y z r1 r2 r3) (fun k => ?_) (Ev.step (fun k => ?_) h)
      · simp only [gimballaw13_MedianMiddle.l1]
        rw [if_pos p1, if_pos p2, rdS_some W i hlt, if_neg q1]
      · simp only [gimballaw13_MedianMiddle.j5]
        rw [if_pos p2, if_pos p1, rdS_some W i hlt, if_pos (show W[i].f1 > r2 from hv), if_neg q2]
end
theorem main_loop (x0 : List S27) (_hl : x0.length ≤ 9223372036854775807) (hw : ∀ a ∈ x0, a.f0.length ≤ 9223372036854775807) (d : Nat) : ∀ i : Nat, i + d = x0.length → Ev (fun k => gimballaw13_MedianMiddle.l0 k x0 (i : Int)) true := by
  induction d with
  | zero =>
    intro i hi
    refine Ev.step (f := fun k => gimballaw13_MedianMiddle.j1 k x0 i false) (fun k => ?_) (Ev.step (f := fun k => gimballaw13_wakes.f k) (fun k => ?_) wakes_ev)
    · simp only [gimballaw13_MedianMiddle.l0]
      rw [if_neg (by omega)]
    · simp only [gimballaw13_MedianMiddle.j1]
      rw [if_neg (by simp)]
      cases gimballaw13_wakes.f k <;> rfl
  | succ d ih =>
    intro i hi
    refine Ev.step (f := fun k => gimballaw13_MedianMiddle.j1 k x0 i (decide ((i : Int) < 20))) (fun k => ?_) ?_
    · simp only [gimballaw13_MedianMiddle.l0]
      rw [if_pos (by omega)]
    by_cases h20 : (i : Int) < 20
    · have hnext := ih (i + 1) (by omega)
      rw [← w64s i (by omega)] at hnext
      have hilt : i < x0.length := by omega
      have hpw : (rd_T27 x0 (i : Int)).f0.length ≤ 9223372036854775807 := by
        unfold rd_T27
        rw [Int.toNat_natCast, List.getD_eq_getElem?_getD, List.getElem?_eq_getElem hilt]
        exact hw _ (List.getElem_mem hilt)
      obtain ⟨p, hp⟩ : ∃ p, p = rd_T27 x0 (i : Int) := ⟨_, rfl⟩
      rw [← hp] at hpw
      obtain ⟨l, n, x, y, z⟩ := p
      have hskip : Ev (fun k => gimballaw13_MedianMiddle.j2 k x0 i true l n x y z) true := Ev.step (fun k => by simp only [gimballaw13_MedianMiddle.j2]; rw [if_pos trivial]) hnext
      refine Ev.step (f := fun k => (gimballaw13_may.f k l n x y z).bind fun t157 => (if t157 = true then (gimballaw13_MedianMiddle.j2 k x0 i (decide ((l.length : Int) < (wrap64 (n - 1)))) l n x y z) else (gimballaw13_MedianMiddle.j2 k x0 i true l n x y z))) (fun k => ?_) ?_
      · simp only [gimballaw13_MedianMiddle.j1]
        rw [if_pos (by simpa using h20), if_pos (by omega), if_pos (by omega), ← hp]
      refine Ev.bind (may_ev l hpw n x y z) ?_
      by_cases hm : (decide (n = 1 ∨ n = 3 ∨ n = 5 ∨ n = 7) && (decide ((l.length : Int) ≤ n) && (l.all gdS && Md.gd3 x y z))) = true
      · simp only [hm, if_true]
        simp only [Bool.and_eq_true, decide_eq_true_eq] at hm
        obtain ⟨hn, hln, hall, hg⟩ := hm
        have hn1 : wrap64 (n - 1) = n - 1 := w64 (by omega) (by omega)
        rw [hn1]
        by_cases hs : (l.length : Int) < n - 1
        · rw [decide_eq_true hs]
          exact hskip
        · rw [decide_eq_false hs]
          obtain ⟨q, hq⟩ : ∃ q, q = l.drop (l.length - (n.toNat - 1)) := ⟨_, rfl⟩
          have hql : q.length + 1 = n.toNat := by rw [hq, List.length_drop]; omega
          have hw1 : wrap64 ((l.length : Int) - (n - 1)) = ((l.length - (n.toNat - 1) : Nat) : Int) := by rw [w64 (by omega) (by omega)]; omega
          have hqa : q.all gdS = true := by
            rw [List.all_eq_true]
            intro v hv
            rw [hq] at hv
            exact List.all_eq_true.1 hall v (List.mem_of_mem_drop hv)
          have hqn : q.any (fun v => !gdS v) = false := by
            rw [List.any_eq_false]
            intro v hv
            have := List.all_eq_true.1 hqa v hv
            simp [this]
          have ho : n.tmod 2 ≠ 0 := by rcases hn with rfl | rfl | rfl | rfl <;> decide
          obtain ⟨W, hW⟩ : ∃ W, W = q ++ [(⟨x, y, z⟩ : SV)] := ⟨_, rfl⟩
          have hWl : (W.length : Int) = n := by rw [hW, List.length_append, List.length_singleton]; omega
          have hWa : W.all gdS = true := by
            rw [hW, List.all_append, hqa, Bool.true_and]
            simp only [List.all_cons, List.all_nil, Bool.and_true]
            exact hg
          have ht := take_good q n x y z (by omega) (by omega) ho (by omega) hg hqn W (by rw [show q.length + 1 - n.toNat = 0 by omega, List.drop_zero]; exact hW)
          have hc := count_loop x0 (i : Int) hnext l n x y z _ _ _ W (by omega) (by omega) ho hWl hWa rfl rfl rfl W.length 0 (by omega)
          rw [List.take_zero] at hc
          simp only [List.countP_nil] at hc
          refine Ev.step (f := fun k => (median_Take.f k q n x y z).bind fun bt162 => ((gimballaw13_num.f bt162.2.2.2.2).bind fun t170 => (if t170 = 0 then (gimballaw13_MedianMiddle.j3 k x0 i bt162.1 ((bt162.1.length : Int) != n) l n x y z bt162.2.1 bt162.2.2.1 bt162.2.2.2.1) else (gimballaw13_MedianMiddle.j3 k x0 i bt162.1 true l n x y z bt162.2.1 bt162.2.2.1 bt162.2.2.2.1)))) (fun k => ?_) ?_
          · simp only [gimballaw13_MedianMiddle.j2]
            rw [if_neg (by simp), hn1, hw1, if_pos (by omega), if_pos (by omega), Int.toNat_natCast, ← hq]
          · refine Ev.bind ht ?_
            simp only [gimballaw13_num.f, Option.bind_some, if_true]
            rw [show ((W.length : Int) != n) = false by rw [hWl]; simp]
            exact Ev.step (fun k => by simp only [gimballaw13_MedianMiddle.j3]; rw [if_neg (by simp)]; rfl) hc
      · rw [Bool.eq_false_iff.2 hm]
        simp only [Bool.false_eq_true, if_false]
        exact hskip
    · refine Ev.step (f := fun k => gimballaw13_wakes.f k) (fun k => ?_) wakes_ev
      simp only [gimballaw13_MedianMiddle.j1]
      rw [if_neg (by simpa using h20)]
      cases gimballaw13_wakes.f k <;> rfl
theorem MedianMiddle : gimballaw13_MedianMiddle.Pure := by
  intro l ⟨hl, hw⟩
  refine (main_loop l (by unfold maxLen at hl; omega) (fun a ha => ?_) l.length 0 (by omega)).rounds
  have := (hw a ha).1.1
  unfold maxLen at this
  omega
end Go.Proofs.Ytbicnidbffibbaa.Pure
