/-
  Package rate: a table's list by plain recursion: what Add and Drop make of it.
  No conditions.
-/
import Derived.Test.YtfdfnmlbmijdjaaRateQ
import Derived.Test.YtfdfnmlbmijdjaaRateI
namespace Go.Proofs.Ytfdfnmlbmijdjaa.Rt
open Go.RowKit
set_option linter.unusedVariables false
set_option linter.unusedSimpArgs false
abbrev Tb := List Ent
def ltK (x : Ent) (c s : Int) : Bool := decide (ord x.c x.s c s < 0)
def eqK (x : Ent) (c s : Int) : Bool := decide (ord x.c x.s c s = 0)
def Tb.add : Tb → Int → Int → Int → Int → Tb
  | [], a, b, p, q => [⟨a, b, a, b, p, q, 0⟩]
  | x :: r, a, b, p, q => if ltK x a b then x :: Tb.add r a b p q else if eqK x a b then ⟨x.c, x.s, a, b, p, q, x.d⟩ :: r else ⟨a, b, a, b, p, q, 0⟩ :: x :: r
def Tb.rem : Tb → Int → Int → Tb
  | [], _, _ => []
  | x :: r, a, b => if eqK x a b then r else x :: Tb.rem r a b
def Tb.has (E : Tb) (a b : Int) : Bool := E.any (eqK · a b)
def Srt (E : Tb) : Prop := E.Pairwise (fun x y => ltK x y.c y.s = true)
theorem Srt.sorted {E : Tb} (h : Srt E) : Sorted E := by
  intro i j hij hj
  have := (List.pairwise_iff_getElem.1 h) i j (by omega) hj hij
  rw [getElem!_pos E i (by omega), getElem!_pos E j hj]
  exact of_decide_eq_true this
theorem posOf_cons (x : Ent) (r : Tb) (a b : Int) : posOf (x :: r) a b = posOf r a b + if ltK x a b then 1 else 0 := by
  unfold posOf ltK
  rw [List.countP_cons]
theorem ltK_trans {x : Ent} {a b c d : Int} (h : ltK x a b = true) (h2 : ord a b c d < 0 ∨ ord a b c d = 0) : ltK x c d = true := by
  unfold ltK at *
  simp only [decide_eq_true_eq, ord_neg, ord_zero] at *
  omega
/-- At or behind a key: so is all that follows. -/
theorem pos_zero {x : Ent} {r : Tb} (h : Srt (x :: r)) {a b : Int} (hx : ltK x a b = false) : posOf r a b = 0 ∧ ∀ y ∈ r, ltK y a b = false ∧ eqK y a b = false := by
  have h1 := (List.pairwise_cons.1 h).1
  have hy : ∀ y ∈ r, ltK y a b = false ∧ eqK y a b = false := by
    intro y hyr
    have h2 := h1 y hyr
    unfold ltK eqK at *
    simp only [decide_eq_true_eq, decide_eq_false_iff_not, ord_neg, ord_zero] at *
    omega
  refine ⟨?_, hy⟩
  unfold posOf
  rw [List.countP_eq_zero]
  intro y hyr
  have := (hy y hyr).1
  unfold ltK at this
  simpa using this
theorem isAt_has : ∀ {E : Tb} (h : Srt E) (a b : Int), isAt E a b = Tb.has E a b
  | [], _, _, _ => rfl
  | x :: r, h, a, b => by
    have ih := isAt_has (List.pairwise_cons.1 h).2 a b
    unfold Tb.has
    rw [List.any_cons]
    cases hl : ltK x a b with
    | true =>
      have he : eqK x a b = false := by
        unfold ltK eqK at *
        simp only [decide_eq_true_eq, decide_eq_false_iff_not] at *
        omega
      rw [he, Bool.false_or]
      show _ = Tb.has r a b
      rw [← ih]
      unfold isAt
      rw [posOf_cons, hl, if_pos rfl, List.length_cons, getElem!_def, List.getElem?_cons_succ, ← getElem!_def]
      congr 1
      apply decide_eq_decide.2
      omega
    | false =>
      obtain ⟨h0, h1⟩ := pos_zero h hl
      have h2 : (r.any fun y => eqK y a b) = false := by
        rw [List.any_eq_false]
        intro y hy
        rw [(h1 y hy).2]
        simp
      rw [h2, Bool.or_false]
      unfold isAt
      rw [posOf_cons, hl, h0]
      simp [eqK]
theorem rem_eq : ∀ {E : Tb} (h : Srt E) (a b : Int), rem E a b = Tb.rem E a b
  | [], _, _, _ => rfl
  | x :: r, h, a, b => by
    have hr := (List.pairwise_cons.1 h).2
    have ih := rem_eq hr a b
    have hat := isAt_has h a b
    have hatr := isAt_has hr a b
    unfold Tb.has at hat hatr
    rw [List.any_cons] at hat
    cases hl : ltK x a b with
    | true =>
      have he : eqK x a b = false := by
        unfold ltK eqK at *
        simp only [decide_eq_true_eq, decide_eq_false_iff_not] at *
        omega
      rw [he, Bool.false_or, ← hatr] at hat
      have hd : Tb.rem (x :: r) a b = x :: Tb.rem r a b := by show (if eqK x a b then r else x :: Tb.rem r a b) = _; rw [he]; rfl
      rw [hd, ← ih]
      unfold rem
      rw [hat, posOf_cons, hl, if_pos rfl]
      cases isAt r a b <;> simp
    | false =>
      obtain ⟨h0, h1⟩ := pos_zero h hl
      have h2 : (r.any fun y => eqK y a b) = false := by
        rw [List.any_eq_false]
        intro y hy
        rw [(h1 y hy).2]
        simp
      rw [h2, Bool.or_false] at hat
      have hd : Tb.rem (x :: r) a b = if eqK x a b then r else x :: Tb.rem r a b := rfl
      rw [hd]
      unfold rem
      rw [hat, posOf_cons, hl, h0]
      cases he : eqK x a b with
      | true => simp
      | false =>
        rw [h2] at hatr
        rw [← ih]
        unfold rem
        rw [hatr]
        simp
theorem add_eq : ∀ {E : Tb} (h : Srt E) (a b p q : Int), addE E a b p q = Tb.add E a b p q
  | [], _, _, _, _, _ => rfl
  | x :: r, h, a, b, p, q => by
    have hr := (List.pairwise_cons.1 h).2
    have ih := add_eq hr a b p q
    have hat := isAt_has h a b
    have hatr := isAt_has hr a b
    unfold Tb.has at hat hatr
    rw [List.any_cons] at hat
    cases hl : ltK x a b with
    | true =>
      have he : eqK x a b = false := by
        unfold ltK eqK at *
        simp only [decide_eq_true_eq, decide_eq_false_iff_not] at *
        omega
      rw [he, Bool.false_or, ← hatr] at hat
      have hd : Tb.add (x :: r) a b p q = x :: Tb.add r a b p q := by show (if ltK x a b then x :: Tb.add r a b p q else _) = _; rw [hl]; rfl
      have hi : ins (x :: r) a b = x :: ins r a b := by
        unfold ins
        rw [hat, posOf_cons, hl, if_pos rfl]
        cases isAt r a b <;> simp
      rw [hd, ← ih]
      unfold addE
      rw [hi, posOf_cons, hl, if_pos rfl, List.set_cons_succ, getElem!_def, List.getElem?_cons_succ, ← getElem!_def]
    | false =>
      obtain ⟨h0, h1⟩ := pos_zero h hl
      have h2 : (r.any fun y => eqK y a b) = false := by
        rw [List.any_eq_false]
        intro y hy
        rw [(h1 y hy).2]
        simp
      rw [h2, Bool.or_false] at hat
      have hd : Tb.add (x :: r) a b p q = if eqK x a b then ⟨x.c, x.s, a, b, p, q, x.d⟩ :: r else ⟨a, b, a, b, p, q, 0⟩ :: x :: r := by show (if ltK x a b then _ else _) = _; rw [hl]; rfl
      rw [hd]
      unfold addE ins
      rw [hat, posOf_cons, hl, h0]
      cases he : eqK x a b with
      | true => simp [putSub]
      | false => simp [putSub]
theorem mem_add {E : Tb} {a b p q : Int} {y : Ent} (h : y ∈ Tb.add E a b p q) : y ∈ E ∨ (y.c = a ∧ y.s = b) := by
  induction E with
  | nil =>
    have : y = ⟨a, b, a, b, p, q, 0⟩ := by simpa [Tb.add] using h
    subst this
    exact .inr ⟨rfl, rfl⟩
  | cons x r ih =>
    unfold Tb.add at h
    split at h
    · rcases List.mem_cons.1 h with rfl | h
      · exact .inl List.mem_cons_self
      · rcases ih h with h | h
        · exact .inl (List.mem_cons_of_mem _ h)
        · exact .inr h
    · split at h
      · rename_i he
        rcases List.mem_cons.1 h with rfl | h
        · have := (ord_zero _ _ _ _).1 (of_decide_eq_true he)
          exact .inr this
        · exact .inl (List.mem_cons_of_mem _ h)
      · rcases List.mem_cons.1 h with rfl | h
        · exact .inr ⟨rfl, rfl⟩
        · exact .inl h
theorem Srt.add : ∀ {E : Tb} (h : Srt E) (a b p q : Int), Srt (Tb.add E a b p q)
  | [], _, _, _, _, _ => by unfold Srt Tb.add; simp
  | x :: r, h, a, b, p, q => by
    obtain ⟨h1, hr⟩ := List.pairwise_cons.1 h
    have ih := Srt.add hr a b p q
    unfold Tb.add
    split
    · rename_i hl
      refine List.pairwise_cons.2 ⟨fun y hy => ?_, ih⟩
      rcases mem_add hy with hy | ⟨rfl, rfl⟩
      · exact h1 y hy
      · exact hl
    · rename_i hl
      split
      · exact List.pairwise_cons.2 ⟨fun y hy => h1 y hy, hr⟩
      · rename_i he
        have hx : ltK ⟨a, b, a, b, p, q, 0⟩ x.c x.s = true := by
          unfold ltK eqK at *
          simp only [decide_eq_true_eq, ord_neg, ord_zero] at *
          omega
        refine List.pairwise_cons.2 ⟨fun y hy => ?_, h⟩
        rcases List.mem_cons.1 hy with rfl | hy
        · exact hx
        · exact ltK_trans hx (.inl (of_decide_eq_true (h1 y hy)))
theorem rem_sub : ∀ (E : Tb) (a b : Int), (Tb.rem E a b).Sublist E
  | [], _, _ => List.Sublist.slnil
  | x :: r, a, b => by
    unfold Tb.rem
    split
    · exact List.sublist_cons_self _ _
    · exact (rem_sub r a b).cons_cons _
theorem Srt.rem {E : Tb} (h : Srt E) (a b : Int) : Srt (Tb.rem E a b) := List.Pairwise.sublist (rem_sub E a b) h
theorem upd_key (s now : Int) (x : Ent) : (upd s now x).c = x.c ∧ (upd s now x).s = x.s := by
  unfold upd
  split <;> exact ⟨rfl, rfl⟩
theorem Srt.take {E : Tb} (h : Srt E) (s now : Int) : Srt (takeE E s now) := by
  unfold Srt takeE
  rw [List.pairwise_map]
  refine h.imp fun {x y} hxy => ?_
  unfold ltK at *
  rw [(upd_key s now x).1, (upd_key s now x).2, (upd_key s now y).1, (upd_key s now y).2]
  exact hxy
theorem Srt.nil : Srt [] := List.Pairwise.nil
/-- Rows of one kind are rows of another one that says the same of each element's cells. -/
theorem R_conv {α β : Type} {d : Proofs.YtfdfnmlbmijdjaaW.PrintWords.Kd α} {d' : Proofs.YtfdfnmlbmijdjaaW.PrintWords.Kd β} (f : α → β) {e : Nat} {w : World} {base : Nat} {ok : Nat → Prop} {v : Value} {xs : List α} (hs : d.sz = d'.sz) (hM : ∀ {w base ok x cs}, d.M w base ok x cs → d'.M w base ok (f x) cs) (h : d.R e w base ok v xs) : d'.R e w base ok v (xs.map f) := by
  obtain ⟨h0, inner, ho, hr⟩ := h
  refine ⟨h0, inner, by rw [List.length_map, ← hs]; exact ho, ⟨by rw [List.length_map, ← hs]; exact hr.1, fun j p hj => ?_⟩⟩
  rw [List.getElem?_map] at hj
  obtain ⟨x, hx, rfl⟩ := Option.map_eq_some_iff.1 hj
  rw [← hs]
  exact hM (hr.2 j x hx)
end Go.Proofs.Ytfdfnmlbmijdjaa.Rt
