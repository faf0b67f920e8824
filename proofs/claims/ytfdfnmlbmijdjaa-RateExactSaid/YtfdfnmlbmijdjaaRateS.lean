/-
  Package rate: plain laws of a table's list.
  No conditions.
-/
import Derived.Test.YtfdfnmlbmijdjaaRateR
namespace Go.Proofs.Ytfdfnmlbmijdjaa.Rt
open Go.RowKit
set_option linter.unusedVariables false
set_option linter.unusedSimpArgs false
/-- What is told of an entry is of its own client and sensor. -/
def Own (E : Tb) : Prop := ∀ x ∈ E, x.a = x.c ∧ x.b = x.s
theorem ltK_eqK {x : Ent} {a b : Int} (h : ltK x a b = true) : eqK x a b = false := by
  unfold ltK eqK at *
  simp only [decide_eq_true_eq, decide_eq_false_iff_not] at *
  omega
theorem eqK_iff {x : Ent} {a b : Int} : eqK x a b = true ↔ x.c = a ∧ x.s = b := by
  unfold eqK
  rw [decide_eq_true_eq, ord_zero]
theorem ltK_iff {x : Ent} {a b : Int} : ltK x a b = true ↔ x.c < a ∨ (x.c = a ∧ x.s < b) := by
  unfold ltK
  rw [decide_eq_true_eq, ord_neg]
theorem has_false {r : Tb} {a b : Int} (h : ∀ y ∈ r, ltK y a b = false ∧ eqK y a b = false) : Tb.has r a b = false := by
  unfold Tb.has
  rw [List.any_eq_false]
  intro y hy
  rw [(h y hy).2]
  simp
theorem len_add : ∀ {E : Tb} (h : Srt E) (a b p q : Int), (Tb.add E a b p q).length = if Tb.has E a b then E.length else E.length + 1
  | [], _, _, _, _, _ => rfl
  | x :: r, h, a, b, p, q => by
    have ih := len_add (List.pairwise_cons.1 h).2 a b p q
    unfold Tb.add
    show _ = if (eqK x a b || Tb.has r a b) then _ else _
    cases hl : ltK x a b with
    | true =>
      rw [ltK_eqK hl, Bool.false_or, if_pos rfl, List.length_cons, ih, List.length_cons]
      split <;> rfl
    | false =>
      rw [has_false (pos_zero h hl).2]
      cases he : eqK x a b <;> simp
theorem has_add : ∀ (E : Tb) (a b p q : Int), Tb.has (Tb.add E a b p q) a b = true
  | [], a, b, p, q => by
    show (eqK ⟨a, b, a, b, p, q, 0⟩ a b || false) = true
    rw [eqK_iff.2 ⟨rfl, rfl⟩]
    rfl
  | x :: r, a, b, p, q => by
    have ih := has_add r a b p q
    unfold Tb.add
    split
    · show (eqK x a b || Tb.has (Tb.add r a b p q) a b) = true
      rw [ih, Bool.or_true]
    · split
      · rename_i he
        show (eqK ⟨x.c, x.s, a, b, p, q, x.d⟩ a b || Tb.has r a b) = true
        rw [show eqK ⟨x.c, x.s, a, b, p, q, x.d⟩ a b = eqK x a b from rfl, he]
        rfl
      · show (eqK ⟨a, b, a, b, p, q, 0⟩ a b || Tb.has (x :: r) a b) = true
        rw [eqK_iff.2 ⟨rfl, rfl⟩]
        rfl
theorem rem_none : ∀ {E : Tb} {a b : Int} (h : Tb.has E a b = false), Tb.rem E a b = E
  | [], _, _, _ => rfl
  | x :: r, a, b, h => by
    have h' : (eqK x a b || Tb.has r a b) = false := h
    rw [Bool.or_eq_false_iff] at h'
    unfold Tb.rem
    rw [h'.1, rem_none h'.2]
    rfl
theorem has_rem : ∀ {E : Tb} (h : Srt E) (a b : Int), Tb.has (Tb.rem E a b) a b = false
  | [], _, _, _ => rfl
  | x :: r, h, a, b => by
    have ih := has_rem (List.pairwise_cons.1 h).2 a b
    unfold Tb.rem
    cases he : eqK x a b with
    | true =>
      have hl : ltK x a b = false := by
        cases hl : ltK x a b with
        | false => rfl
        | true => rw [ltK_eqK hl] at he; cases he
      rw [if_pos rfl]
      exact has_false (pos_zero h hl).2
    | false =>
      rw [if_neg (by decide)]
      show (eqK x a b || Tb.has (Tb.rem r a b) a b) = false
      rw [he, ih]
      rfl
theorem len_rem : ∀ {E : Tb} {a b : Int}, Tb.has E a b = true → (Tb.rem E a b).length + 1 = E.length
  | [], _, _, h => by cases h
  | x :: r, a, b, h => by
    unfold Tb.rem
    cases he : eqK x a b with
    | true => simp
    | false =>
      have h' : (eqK x a b || Tb.has r a b) = true := h
      rw [he, Bool.false_or] at h'
      have ih := len_rem h'
      rw [if_neg (by decide), List.length_cons, List.length_cons]
      omega
theorem Own.add {E : Tb} (h : Own E) (a b p q : Int) : Own (Tb.add E a b p q) := by
  induction E with
  | nil =>
    intro y hy
    have : y = ⟨a, b, a, b, p, q, 0⟩ := by simpa [Tb.add] using hy
    subst this
    exact ⟨rfl, rfl⟩
  | cons x r ih =>
    have hr := ih (fun y hy => h y (List.mem_cons_of_mem _ hy))
    intro y hy
    unfold Tb.add at hy
    split at hy
    · rcases List.mem_cons.1 hy with rfl | hy
      · exact h _ List.mem_cons_self
      · exact hr y hy
    · split at hy
      · rename_i he
        rcases List.mem_cons.1 hy with rfl | hy
        · have := eqK_iff.1 he
          exact ⟨this.1.symm, this.2.symm⟩
        · exact h y (List.mem_cons_of_mem _ hy)
      · rcases List.mem_cons.1 hy with rfl | hy
        · exact ⟨rfl, rfl⟩
        · exact h y hy
theorem Own.rem {E : Tb} (h : Own E) (a b : Int) : Own (Tb.rem E a b) := fun y hy => h y ((rem_sub E a b).subset hy)
theorem Own.nil : Own [] := fun _ h => by cases h
def isSub (a b p q : Int) (x : Ent) : Bool := (x.a == a && (x.b == b && (x.p == p && (x.q == q))))
theorem isSub_key {a b p q : Int} {x : Ent} (h : x.a = x.c ∧ x.b = x.s) (hs : isSub a b p q x = true) : eqK x a b = true := by
  unfold isSub at hs
  simp only [Bool.and_eq_true, beq_iff_eq] at hs
  exact eqK_iff.2 ⟨by omega, by omega⟩
/-- What was added is there, and once. -/
theorem count_add : ∀ {E : Tb} (h : Srt E) (ho : Own E) (a b p q : Int), (Tb.add E a b p q).countP (isSub a b p q) = 1
  | [], _, _, a, b, p, q => by
    unfold Tb.add
    simp [isSub]
  | x :: r, h, ho, a, b, p, q => by
    have hor : Own r := fun y hy => ho y (List.mem_cons_of_mem _ hy)
    have ih := count_add (List.pairwise_cons.1 h).2 hor a b p q
    have hx := ho x List.mem_cons_self
    unfold Tb.add
    cases hl : ltK x a b with
    | true =>
      rw [if_pos rfl, List.countP_cons, ih]
      have : isSub a b p q x = false := by
        cases hs : isSub a b p q x with
        | false => rfl
        | true => have := isSub_key hx hs; rw [ltK_eqK hl] at this; cases this
      rw [this]
      rfl
    | false =>
      have hz : r.countP (isSub a b p q) = 0 := by
        rw [List.countP_eq_zero]
        intro y hy hs
        have := isSub_key (hor y hy) hs
        rw [((pos_zero h hl).2 y hy).2] at this
        cases this
      rw [if_neg (by decide)]
      cases he : eqK x a b with
      | true =>
        rw [if_pos rfl, List.countP_cons, hz]
        simp [isSub]
      | false =>
        have : isSub a b p q x = false := by
          cases hs : isSub a b p q x with
          | false => rfl
          | true => have := isSub_key hx hs; rw [he] at this; cases this
        rw [if_neg (by decide), List.countP_cons, List.countP_cons, hz, this]
        simp [isSub]
end Go.Proofs.Ytfdfnmlbmijdjaa.Rt
