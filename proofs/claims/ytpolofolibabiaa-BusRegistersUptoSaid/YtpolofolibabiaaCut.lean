/-
  Plain laws: a cut and a loop whose forgotten slots stand in one list (so that the proof's size grows with the frame, not with its square).
  No conditions.
-/
import Derived.Calls
import Derived.Tactics
import Derived.Deep.Cut
import Derived.Deep.LoopGhost
namespace Go.Proofs.Ytpolofolibabiaa.Cu
open Go
variable {P : Program}
abbrev t : Bool := true
abbrev f : Bool := false
def rep : Nat → Bool → List Bool → List Bool
  | 0, _, l => l
  | n + 1, b, l => b :: rep n b l
/-- the slots that the mask names, out of a frame -/
def pick : List Bool → List Value → List Value
  | [], _ => []
  | _ :: _, [] => []
  | true :: m, x :: l => x :: pick m l
  | false :: m, _ :: l => pick m l
/-- a frame, the slots that the mask names out of another list -/
def over : List Value → List Bool → List Value → List Value
  | _, [], l => l
  | _, _ :: _, [] => []
  | [], true :: _, _ :: l => l
  | u :: us, true :: m, _ :: l => u :: over us m l
  | us, false :: m, x :: l => x :: over us m l
def nth : List Value → Nat → Value
  | [], _ => undef
  | x :: _, 0 => x
  | _ :: l, n + 1 => nth l n
def Alls : Nat → (List Value → Prop) → Prop
  | 0, p => p []
  | n + 1, p => ∀ v, Alls n fun l => p (v :: l)
theorem alls_of : ∀ {n : Nat} {p : List Value → Prop}, Alls n p → ∀ us : List Value, us.length = n → p us
  | 0, _, h, [], _ => h
  | 0, _, _, _ :: _, e => by simp at e
  | n + 1, _, _, [], e => by simp at e
  | n + 1, p, h, v :: us, e => alls_of (n := n) (p := fun l => p (v :: l)) (h v) us (by simpa using e)
/-- at a meeting: the relation, of the forgotten slots and the world; all other slots are as they were -/
def Cut (R : List Value → World → Prop) (m : List Bool) (n : Nat) (l : List Value) (a : Act) (w : World) : Prop :=
  ∃ us, us.length = n ∧ R us w ∧ a = ⟨(over us m l).toArray, []⟩
theorem wp_cut {s : Code} {K : Act → World → Prop} {Q' : Exit → Act → World → Prop} {l : List Value} {w : World} (m : List Bool) (n : Nat) (R : List Value → World → Prop)
    (first : ∀ (J K' : Act → World → Prop), (∀ a' w', Cut R m n l a' w' → J a' w') → (∀ a' w', Met J a' w' → K' a' w') → s.wp P (Exit.then K' Q') ⟨l.toArray, []⟩ w)
    (rest : ∀ wc, Alls n fun us => R us wc → K ⟨(over us m l).toArray, []⟩ wc) : s.wp P (Exit.then K Q') ⟨l.toArray, []⟩ w :=
  Go.wp_cut (Cut R m n l) (fun _ w' h => by obtain ⟨us, hn, hr, rfl⟩ := h; exact alls_of (rest w') us hn hr) first
theorem meet {J : Act → World → Prop} {R : List Value → World → Prop} {m : List Bool} {n : Nat} {l l' : List Value} {w : World}
    (hJ : ∀ a' w', Cut R m n l a' w' → J a' w') (hr : R (pick m l') w) (hn : (pick m l').length = n) (ho : l' = over (pick m l') m l) : Met J ⟨l'.toArray, []⟩ w :=
  Met.intro (hJ _ _ ⟨pick m l', hn, hr, by rw [← ho]⟩)
theorem wp_loop {Q : Exit → Act → World → Prop} {l : List Value} {w : World} {c : Code} (m : List Bool) (n : Nat) (R : Nat → List Value → World → Prop) (n₀ : Nat)
    (h₀ : R n₀ (pick m l) w) (hn : (pick m l).length = n) (ho : l = over (pick m l) m l)
    (round : ∀ gk wr, Alls n fun us => R gk us wr → ∀ (J : Nat → Act → World → Prop) (K : Act → World → Prop), (∀ k a' w', Cut (R k) m n l a' w' → J k a' w') → (∀ a' w', Handed J gk a' w' → K a' w') → c.wp P (Exit.then K Q) ⟨(over us m l).toArray, []⟩ wr) :
    (Code.loop c).wp P Q ⟨l.toArray, []⟩ w :=
  wp_loop_ghost_k (fun k => Cut (R k) m n l) n₀ ⟨pick m l, hn, h₀, by rw [← ho]⟩ fun _ _ w' h => by
    obtain ⟨us, hn, hr, rfl⟩ := h
    exact alls_of (round _ w') us hn hr
theorem handed {J : Nat → Act → World → Prop} {R : Nat → List Value → World → Prop} {m : List Bool} {n gk : Nat} {l l' : List Value} {w : World} (k : Nat) (hk : k < gk)
    (hJ : ∀ k a' w', Cut (R k) m n l a' w' → J k a' w') (hr : R k (pick m l') w) (hn : (pick m l').length = n) (ho : l' = over (pick m l') m l) : Handed J gk ⟨l'.toArray, []⟩ w :=
  Handed.intro k hk (hJ _ _ _ ⟨pick m l', hn, hr, by rw [← ho]⟩)
end Go.Proofs.Ytpolofolibabiaa.Cu
