/-
  Package rate: plain laws of one sensor's subscriptions, beside each client's period and last event.
  No conditions.
-/
import Derived.Test.YtfdfnmlbmijdjaaRateS
namespace Go.Proofs.Ytfdfnmlbmijdjaa.Rt
open Go.RowKit
set_option linter.unusedVariables false
set_option linter.unusedSimpArgs false
/-- What the law's own lists say of the table: P the periods (0: none), L the last events (below 0: none). -/
structure Inv (E : Tb) (P L : List Int) (now : Int) : Prop where
  srt : Srt E
  pl : P.length = 8
  ll : L.length = 8
  now0 : 0 ≤ now
  key : ∀ x ∈ E, x.s = 5 ∧ 0 ≤ x.c ∧ x.c < 8
  has : ∀ c : Nat, c < 8 → (0 < P[c]! ↔ Tb.has E (c : Int) 5 = true)
  rng : ∀ c : Nat, c < 8 → 0 ≤ P[c]! ∧ P[c]! ≤ 1000
  last : ∀ c : Nat, c < 8 → L[c]! ≤ now ∧ -1 ≤ L[c]!
  due : ∀ x ∈ E, x.p = P[x.c.toNat]! ∧ ((L[x.c.toNat]! < 0 ∧ x.d ≤ now) ∨ (0 ≤ L[x.c.toNat]! ∧ x.d = L[x.c.toNat]! + x.p))
theorem has_iff {E : Tb} {a b : Int} : Tb.has E a b = true ↔ ∃ x ∈ E, x.c = a ∧ x.s = b := by
  unfold Tb.has
  rw [List.any_eq_true]
  constructor
  · rintro ⟨x, hx, h⟩
    exact ⟨x, hx, eqK_iff.1 h⟩
  · rintro ⟨x, hx, h⟩
    exact ⟨x, hx, eqK_iff.2 h⟩
theorem set_get {l : List Int} {i j : Nat} {v : Int} (hi : i < l.length) : (l.set i v)[j]! = if i = j then v else l[j]! := by
  rw [getElem!_def, getElem!_def, List.getElem?_set]
  by_cases h : i = j
  · subst h
    rw [if_pos rfl, if_pos rfl, if_pos hi]
  · rw [if_neg h, if_neg h]
theorem Inv.nil : Inv [] (List.replicate 8 0) (List.replicate 8 0) 0 where
  srt := Srt.nil
  pl := rfl
  ll := rfl
  now0 := Int.le_refl _
  key := fun _ h => by cases h
  has := fun c hc => by
    have : (List.replicate 8 (0 : Int))[c]! = 0 := by rw [getElem!_pos _ c (by simpa using hc), List.getElem_replicate]
    rw [this]
    simp [Tb.has]
  rng := fun c hc => by
    have : (List.replicate 8 (0 : Int))[c]! = 0 := by rw [getElem!_pos _ c (by simpa using hc), List.getElem_replicate]
    rw [this]
    omega
  last := fun c hc => by
    have : (List.replicate 8 (0 : Int))[c]! = 0 := by rw [getElem!_pos _ c (by simpa using hc), List.getElem_replicate]
    rw [this]
    omega
  due := fun _ h => by cases h
theorem Inv.later {E : Tb} {P L : List Int} {now n2 : Int} (h : Inv E P L now) (hn : now ≤ n2) : Inv E P L n2 :=
  { h with
    now0 := Int.le_trans h.now0 hn
    last := fun c hc => by have := h.last c hc; omega
    due := fun x hx => by have := h.due x hx; omega }
/-- The entries of what was added are those that were there, or the new one. -/
theorem mem_add_new : ∀ {E : Tb} {a b p q : Int}, Tb.has E a b = false → ∀ y, y ∈ Tb.add E a b p q ↔ y ∈ E ∨ y = ⟨a, b, a, b, p, q, 0⟩
  | [], _, _, _, _, _, y => by simp [Tb.add]
  | x :: r, a, b, p, q, h, y => by
    have h' : (eqK x a b || Tb.has r a b) = false := h
    rw [Bool.or_eq_false_iff] at h'
    have ih := mem_add_new (p := p) (q := q) h'.2 y
    unfold Tb.add
    split
    · rw [List.mem_cons, ih, List.mem_cons]
      constructor
      · rintro (h1 | h1 | h1)
        · exact .inl (.inl h1)
        · exact .inl (.inr h1)
        · exact .inr h1
      · rintro ((h1 | h1) | h1)
        · exact .inl h1
        · exact .inr (.inl h1)
        · exact .inr (.inr h1)
    · rw [h'.1, if_neg (by decide), List.mem_cons]
      exact Or.comm
theorem mem_rem : ∀ {E : Tb} (h : Srt E) (a b : Int), ∀ y, y ∈ Tb.rem E a b ↔ y ∈ E ∧ ¬ (y.c = a ∧ y.s = b)
  | [], _, _, _, y => by simp [Tb.rem]
  | x :: r, h, a, b, y => by
    have ih := mem_rem (List.pairwise_cons.1 h).2 a b y
    unfold Tb.rem
    cases he : eqK x a b with
    | true =>
      have hk := eqK_iff.1 he
      have hl : ltK x a b = false := by
        cases hl : ltK x a b with
        | false => rfl
        | true => rw [ltK_eqK hl] at he; cases he
      rw [if_pos rfl, List.mem_cons]
      constructor
      · intro hy
        refine ⟨.inr hy, fun hc => ?_⟩
        have := ((pos_zero h hl).2 y hy).2
        rw [eqK_iff.2 hc] at this
        cases this
      · rintro ⟨rfl | hy, hc⟩
        · exact absurd hk hc
        · exact hy
    | false =>
      rw [if_neg (by decide), List.mem_cons, ih, List.mem_cons]
      constructor
      · rintro (rfl | ⟨hy, hc⟩)
        · refine ⟨.inl rfl, fun hc => ?_⟩
          rw [eqK_iff.2 hc] at he
          cases he
        · exact ⟨.inr hy, hc⟩
      · rintro ⟨rfl | hy, hc⟩
        · exact .inl rfl
        · exact .inr ⟨hy, hc⟩
theorem toNat_eq {a : Int} {c : Nat} (h : 0 ≤ a) : (c = a.toNat) ↔ ((c : Int) = a) := by omega
theorem Inv.add {E : Tb} {P L : List Int} {now : Int} (h : Inv E P L now) (c : Nat) (hc : c < 8) (hp : ¬ 0 < P[c]!) (p : Int) (h1 : 1 ≤ p) (h2 : p ≤ 1000) : Inv (Tb.add E (c : Int) 5 p 0) (P.set c p) (L.set c (-1)) now := by
  have hh : Tb.has E (c : Int) 5 = false := by
    cases hb : Tb.has E (c : Int) 5 with
    | false => rfl
    | true => exact absurd ((h.has c hc).2 hb) hp
  have hne : ∀ x ∈ E, ¬ c = x.c.toNat := fun x hx e => by
    have hk := h.key x hx
    have : Tb.has E (c : Int) 5 = true := has_iff.2 ⟨x, hx, by omega, hk.1⟩
    rw [hh] at this
    cases this
  refine ⟨Srt.add h.srt _ _ _ _, by rw [List.length_set]; exact h.pl, by rw [List.length_set]; exact h.ll, h.now0, ?_, ?_, ?_, ?_, ?_⟩
  · intro x hx
    rcases (mem_add_new hh x).1 hx with hx | rfl
    · exact h.key x hx
    · exact ⟨rfl, by show (0 : Int) ≤ c; omega, by show (c : Int) < 8; omega⟩
  · intro k hk
    rw [set_get (by rw [h.pl]; exact hc)]
    split
    · rename_i e
      subst e
      rw [has_add]
      exact ⟨fun _ => rfl, fun _ => by omega⟩
    · rename_i e
      rw [h.has k hk, has_iff, has_iff]
      constructor
      · rintro ⟨x, hx, hk2⟩
        exact ⟨x, (mem_add_new hh x).2 (.inl hx), hk2⟩
      · rintro ⟨x, hx, hk2⟩
        rcases (mem_add_new hh x).1 hx with hx | rfl
        · exact ⟨x, hx, hk2⟩
        · have h9 : (c : Int) = (k : Int) := hk2.1
          exact absurd (by omega) e
  · intro k hk
    rw [set_get (by rw [h.pl]; exact hc)]
    split
    · omega
    · exact h.rng k hk
  · intro k hk
    rw [set_get (by rw [h.ll]; exact hc)]
    split
    · have := h.now0; omega
    · exact h.last k hk
  · intro x hx
    rw [set_get (by rw [h.pl]; exact hc), set_get (by rw [h.ll]; exact hc)]
    rcases (mem_add_new hh x).1 hx with hx | rfl
    · rw [if_neg (hne x hx), if_neg (hne x hx)]
      exact h.due x hx
    · have e : c = (c : Int).toNat := by omega
      show p = (if c = (c : Int).toNat then p else _) ∧ (((if c = (c : Int).toNat then (-1 : Int) else _) < 0 ∧ (0 : Int) ≤ now) ∨ _)
      rw [if_pos e, if_pos e]
      exact ⟨rfl, .inl ⟨by omega, h.now0⟩⟩
theorem Inv.drop {E : Tb} {P L : List Int} {now : Int} (h : Inv E P L now) (c : Nat) (hc : c < 8) : Inv (Tb.rem E (c : Int) 5) (P.set c 0) L now := by
  refine ⟨Srt.rem h.srt _ _, by rw [List.length_set]; exact h.pl, h.ll, h.now0, ?_, ?_, ?_, h.last, ?_⟩
  · intro x hx
    exact h.key x ((mem_rem h.srt _ _ x).1 hx).1
  · intro k hk
    rw [set_get (by rw [h.pl]; exact hc)]
    split
    · rename_i e
      subst e
      rw [has_rem h.srt]
      simp
    · rename_i e
      rw [h.has k hk, has_iff, has_iff]
      constructor
      · rintro ⟨x, hx, hk2⟩
        exact ⟨x, (mem_rem h.srt _ _ x).2 ⟨hx, by omega⟩, hk2⟩
      · rintro ⟨x, hx, hk2⟩
        exact ⟨x, ((mem_rem h.srt _ _ x).1 hx).1, hk2⟩
  · intro k hk
    rw [set_get (by rw [h.pl]; exact hc)]
    split
    · omega
    · exact h.rng k hk
  · intro x hx
    have hx2 := (mem_rem h.srt _ _ x).1 hx
    have hk := h.key x hx2.1
    rw [set_get (by rw [h.pl]; exact hc), if_neg (by have := hx2.2; omega)]
    exact h.due x hx2.1
def want (P L : List Int) (now : Int) (k : Nat) : Bool := decide (0 < P[k]!) && (decide (L[k]! < 0) || decide (P[k]! ≤ now - L[k]!))
/-- The last events, those of the first j clients brought up to date. -/
def upto (P L : List Int) (now : Int) (j : Nat) : List Int := (List.range 8).map fun k => if k < j ∧ want P L now k = true then now else L[k]!
theorem upto_len (P L : List Int) (now : Int) (j : Nat) : (upto P L now j).length = 8 := by unfold upto; rw [List.length_map, List.length_range]
theorem upto_get (P L : List Int) (now : Int) (j k : Nat) (hk : k < 8) : (upto P L now j)[k]! = if k < j ∧ want P L now k = true then now else L[k]! := by
  rw [getElem!_pos _ k (by rw [upto_len]; exact hk)]
  unfold upto
  rw [List.getElem_map, List.getElem_range]
theorem upto_zero {P L : List Int} {now : Int} (hl : L.length = 8) : upto P L now 0 = L := by
  apply List.ext_getElem
  · rw [upto_len, hl]
  · intro k h1 h2
    have h3 := upto_get P L now 0 k (by omega)
    rw [getElem!_pos _ k h1, if_neg (by omega), getElem!_pos _ k h2] at h3
    exact h3
theorem upto_succ (P L : List Int) (now : Int) (j : Nat) (hj : j < 8) : upto P L now (j + 1) = if want P L now j = true then (upto P L now j).set j now else upto P L now j := by
  apply List.ext_getElem
  · rw [upto_len]; split <;> simp [upto_len]
  · intro k h1 h2
    have hk : k < 8 := by rw [upto_len] at h1; exact h1
    have h3 := upto_get P L now (j + 1) k hk
    rw [getElem!_pos _ k h1] at h3
    rw [h3]
    by_cases hw : want P L now j = true
    · simp only [hw, if_true]
      have h4 := set_get (l := upto P L now j) (i := j) (j := k) (v := now) (by rw [upto_len]; exact hj)
      rw [getElem!_pos _ k (by rw [List.length_set, upto_len]; exact hk)] at h4
      rw [h4, upto_get P L now j k hk]
      by_cases e : j = k
      · subst e
        simp [hw]
      · rw [if_neg e]
        simp only [show (k < j + 1) ↔ (k < j) by omega]
    · have h4 := upto_get P L now j k hk
      rw [getElem!_pos _ k (by rw [upto_len]; exact hk)] at h4
      simp only [if_neg hw]
      rw [h4]
      by_cases e : k = j
      · subst e
        simp [hw]
      · simp only [show (k < j + 1) ↔ (k < j) by omega]
theorem hit_iff {E : Tb} {P L : List Int} {now : Int} (h : Inv E P L now) (x : Ent) (hx : x ∈ E) : hit 5 now x = want P L now x.c.toNat := by
  have h1 := h.key x hx
  have h2 := h.due x hx
  have h3 := h.has x.c.toNat (by omega)
  have h4 : Tb.has E (x.c.toNat : Int) 5 = true := has_iff.2 ⟨x, hx, by omega, h1.1⟩
  rw [h4] at h3
  have h5 := h3.2 rfl
  unfold hit want
  rw [decide_eq_true h1.1, decide_eq_true h5, Bool.true_and, Bool.true_and, Bool.eq_iff_iff, Bool.or_eq_true, decide_eq_true_eq, decide_eq_true_eq, decide_eq_true_eq]
  omega
theorem Inv.take {E : Tb} {P L : List Int} {now : Int} (h : Inv E P L now) (hn : now ≤ 1099511627776) : Inv (takeE E 5 now) P (upto P L now 8) now := by
  have hm : ∀ x ∈ takeE E 5 now, ∃ y ∈ E, x = upd 5 now y := fun x hx => by
    unfold takeE at hx
    obtain ⟨y, hy, e⟩ := List.mem_map.1 hx
    exact ⟨y, hy, e.symm⟩
  refine ⟨Srt.take h.srt _ _, h.pl, upto_len _ _ _ _, h.now0, ?_, ?_, h.rng, ?_, ?_⟩
  · intro x hx
    obtain ⟨y, hy, rfl⟩ := hm x hx
    have := upd_key 5 now y
    rw [this.1, this.2]
    exact h.key y hy
  · intro c hc
    rw [h.has c hc, has_iff, has_iff]
    constructor
    · rintro ⟨x, hx, hk⟩
      refine ⟨upd 5 now x, List.mem_map.2 ⟨x, hx, rfl⟩, ?_⟩
      rw [(upd_key 5 now x).1, (upd_key 5 now x).2]
      exact hk
    · rintro ⟨x, hx, hk⟩
      obtain ⟨y, hy, rfl⟩ := hm x hx
      rw [(upd_key 5 now y).1, (upd_key 5 now y).2] at hk
      exact ⟨y, hy, hk⟩
  · intro c hc
    rw [upto_get P L now 8 c hc]
    have := h.last c hc
    have := h.now0
    split <;> omega
  · intro x hx
    obtain ⟨y, hy, rfl⟩ := hm x hx
    have hk := h.key y hy
    have hd := h.due y hy
    have hh := hit_iff h y hy
    have hr := h.rng y.c.toNat (by omega)
    have hl := h.last y.c.toNat (by omega)
    rw [(upd_key 5 now y).1, upto_get P L now 8 y.c.toNat (by omega), ← hh]
    unfold upd
    by_cases hu : y.s = 5 ∧ y.d ≤ now
    · have ht : hit 5 now y = true := by unfold hit; rw [decide_eq_true hu.1, decide_eq_true hu.2]; rfl
      have hw : wrap64 (now + y.p) = now + y.p := by
        unfold wrap64
        have := h.now0
        omega
      rw [if_pos hu, if_pos ⟨by omega, ht⟩]
      exact ⟨hd.1, .inr ⟨h.now0, hw⟩⟩
    · have ht : ¬ hit 5 now y = true := by
        intro ht
        unfold hit at ht
        rw [Bool.and_eq_true, decide_eq_true_eq, decide_eq_true_eq] at ht
        exact hu ht
      rw [if_neg hu, if_neg (fun hh => ht hh.2)]
      exact hd
/-- Who gets an event: the clients that are due, rising. -/
theorem take_rising {E : Tb} {P L : List Int} {now : Int} (h : Inv E P L now) : (takeL E 5 now).Pairwise (· < ·) ∧ (∀ c ∈ takeL E 5 now, 0 ≤ c ∧ c < 8) ∧ ∀ k : Nat, k < 8 → ((k : Int) ∈ takeL E 5 now ↔ want P L now k = true) := by
  refine ⟨?_, ?_, ?_⟩
  · unfold takeL
    rw [List.pairwise_map]
    have hs : (E.filter (hit 5 now)).Pairwise (fun x y => ltK x y.c y.s = true) := List.Pairwise.filter _ h.srt
    refine List.Pairwise.imp_of_mem (fun {x y} hx hy hxy => ?_) hs
    have kx := h.key x (List.mem_filter.1 hx).1
    have ky := h.key y (List.mem_filter.1 hy).1
    rw [ltK_iff] at hxy
    omega
  · intro c hc
    unfold takeL at hc
    obtain ⟨x, hx, rfl⟩ := List.mem_map.1 hc
    exact (h.key x (List.mem_filter.1 hx).1).2
  · intro k hk
    unfold takeL
    rw [List.mem_map]
    constructor
    · rintro ⟨x, hx, e⟩
      obtain ⟨hx1, hx2⟩ := List.mem_filter.1 hx
      rw [hit_iff h x hx1, show x.c.toNat = k by omega] at hx2
      exact hx2
    · intro hw
      have hp : 0 < P[k]! := by
        unfold want at hw
        rw [Bool.and_eq_true, decide_eq_true_eq] at hw
        exact hw.1
      obtain ⟨x, hx, hc, hs⟩ := has_iff.1 ((h.has k hk).1 hp)
      refine ⟨x, List.mem_filter.2 ⟨hx, ?_⟩, hc⟩
      rw [hit_iff h x hx, show x.c.toNat = k by omega]
      exact hw
theorem Inv.len {E : Tb} {P L : List Int} {now : Int} (h : Inv E P L now) : (takeE E 5 now).length = E.length := List.length_map _
end Go.Proofs.Ytfdfnmlbmijdjaa.Rt
