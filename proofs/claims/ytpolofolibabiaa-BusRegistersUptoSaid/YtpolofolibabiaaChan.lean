/-
  Plain laws: a lone goroutine's sends, and its selects of one case with a default, at a channel with a buffer.
  No conditions.
-/
import Derived.Calls
import Derived.Tactics
import Derived.WalkKit
import Derived.Conc.SmallLaws
import Derived.Deep.DeepCutAuto
import Derived.Deep.CutBlock
import Derived.Laws.EntriesVeiled
import Derived.RegionTactic
import Derived.Laws.Rows
import Derived.Below
namespace Go.Proofs.Ytpolofolibabiaa.Ch
open Go Go.RowKit
set_option linter.unusedSimpArgs false
variable {P : Program}
def gone : Array Goroutine := #[{ (default : Goroutine) with status := .finished }]
theorem partners_gone (r : Nat) (s : Bool) : partners gone r s = [] := by
  unfold gone partners
  rfl
theorem step_lone_comm {fr fr' : Frame} {cs : List Frame} {w w' w'' : World} {cases : Array CommCase} {bl : Bool} {sh : CommShape}
    (h : (stepG P true { frame := fr, callers := cs, status := .running, dying := none } w).bare = .comm { frame := fr, callers := cs, status := .running, dying := none } cases bl sh w')
    (hc : (communicate P { timers := #[], alone := none, slice := none } gone 0 { frame := fr, callers := cs, status := .running, dying := none } cases bl sh w').1 = .next (lone fr' cs w'')) :
    step P (lone fr cs w) = .next (lone fr' cs w'') := by
  generalize hs : stepG P true { frame := fr, callers := cs, status := .running, dying := none } w = s at h
  cases s <;> simp at h
  obtain ⟨rfl, rfl, rfl, rfl, rfl⟩ := h
  rw [step, stepT, move_lone]
  simp [runT, lone, Array.swapAt!, hs]
  exact hc
/-- What a lone goroutine's communication of one case comes to: its value, and the world behind it. -/
inductive Comm (w : World) : Array CommCase → Bool → CommShape → Value → World → Prop
  | send (r cap : Nat) (buf : Array Value) (s rc : Nat) (tm : Bool) (v z : Value) (hb : w.heap[r]? = some (.chan cap buf false s rc tm)) (hr : buf.size < cap) :
      Comm w #[{ chan := .chan (some r), send := some v, zero := z }] true .send undef { w with heap := w.heap.setIfInBounds r (.chan cap (buf.push v) false (s + 1) rc tm) }
  | put (r cap : Nat) (buf : Array Value) (s rc : Nat) (tm : Bool) (v z : Value) (hb : w.heap[r]? = some (.chan cap buf false s rc tm)) (hr : buf.size < cap) :
      Comm w #[{ chan := .chan (some r), send := some v, zero := z }] false .select (.tuple #[goInt 0, .bool false]) { w with heap := w.heap.setIfInBounds r (.chan cap (buf.push v) false (s + 1) rc tm) }
  | full (r cap : Nat) (buf : Array Value) (s rc : Nat) (tm : Bool) (v z : Value) (hb : w.heap[r]? = some (.chan cap buf false s rc tm)) (hr : ¬ buf.size < cap) :
      Comm w #[{ chan := .chan (some r), send := some v, zero := z }] false .select (.tuple #[goInt (-1), .bool false]) w
  | take (r cap : Nat) (buf : Array Value) (s rc : Nat) (tm : Bool) (z : Value) (hb : w.heap[r]? = some (.chan cap buf false s rc tm)) (hr : 0 < buf.size) :
      Comm w #[{ chan := .chan (some r), send := none, zero := z }] false .select (.tuple #[goInt 0, .bool true, buf.getD 0 undef]) { w with heap := w.heap.setIfInBounds r (.chan cap (buf.extract 1 buf.size) false s (rc + 1) tm) }
  | empty (r cap : Nat) (buf : Array Value) (s rc : Nat) (tm : Bool) (z : Value) (hb : w.heap[r]? = some (.chan cap buf false s rc tm)) (hr : buf.size = 0) :
      Comm w #[{ chan := .chan (some r), send := none, zero := z }] false .select (.tuple #[goInt (-1), .bool false, z]) w
theorem comm_next {w w'' : World} {cases : Array CommCase} {bl : Bool} {sh : CommShape} {v : Value} (h : Comm w cases bl sh v w'') (fr : Frame) (cs : List Frame) :
    (communicate P { timers := #[], alone := none, slice := none } gone 0 { frame := fr, callers := cs, status := .running, dying := none } cases bl sh w).1 = .next (lone (fr.finish v) cs w'') := by
  cases h with
  | send r cap buf s rc tm v z hb hr =>
    simp only [communicate, ways]
    simp [hb, partners_gone, hr, choose, Sem.run, Question.forced, pure, bind, Sem.bind, Goroutine.finishComm, commResult]
    simp [gone, lone]
  | put r cap buf s rc tm v z hb hr =>
    simp only [communicate, ways]
    simp [hb, partners_gone, hr, choose, Sem.run, Question.forced, pure, bind, Sem.bind, Goroutine.finishComm, commResult]
    simp [gone, lone]
  | full r cap buf s rc tm v z hb hr =>
    simp only [communicate, ways]
    simp [hb, partners_gone, hr, choose, Sem.run, Question.forced, pure, bind, Sem.bind, Goroutine.finishComm, commResult]
    simp [gone, lone]
  | take r cap buf s rc tm z hb hr =>
    simp only [communicate, ways]
    simp [hb, partners_gone, hr, choose, Sem.run, Question.forced, pure, bind, Sem.bind, Goroutine.finishComm, commResult]
    simp [gone, lone]
  | empty r cap buf s rc tm z hb hr =>
    simp only [communicate, ways]
    simp [hb, partners_gone, hr, choose, Sem.run, Question.forced, pure, bind, Sem.bind, Goroutine.finishComm, commResult]
    simp [gone, lone]
/-! From a place in a region on: what the walk's own list of operations tells, and communications. -/
def FromI (P : Program) (ops : Array Oper) (Q : Exit → Act → World → Prop) (l : List Nat) (a : Act) (w : World) : Prop :=
  ∀ (b : Frame) (k : List Item) (cs : List Frame), ∃ e a' w', Q e a' w' ∧ Arrives P (lone (b.at a (.inRegion ops l :: k)) cs w) b k cs e a' w'
def FromL (P : Program) (l : List Oper) (Q : Exit → Act → World → Prop) (rest : List Oper) (a : Act) (w : World) : Prop :=
  ∀ k, l.drop k = rest → FromI P l.toArray Q (List.range' k rest.length) a w
section
variable {l rest : List Oper} {o : Oper} {Q : Exit → Act → World → Prop} {a : Act} {w w1 w' : World} {v : Value}
theorem drop_get {k : Nat} (h : l.drop k = o :: rest) : l[k]? = some o ∧ l.drop (k + 1) = rest := by
  constructor
  · have := List.getElem?_drop (xs := l) (i := k) (j := 0)
    rw [h] at this
    simpa using this.symm
  · rw [← List.drop_drop, h]
    rfl
theorem FromL.ops (h : wpList P l.toArray Q rest a w) : FromL P l Q rest a w := by
  intro k hk
  rw [← wpOps_eq_wpList rest k (fun j => by subst hk; simp)] at h
  exact wp_ops _ a w h
theorem FromL.value (hg : o.guard = none) (hr : (execOp a.eval o).run P w = .ok (.value v) w') (h : FromL P l Q rest (a.put o.dst v) w') : FromL P l Q (o :: rest) a w := by
  intro k hk b kk cs
  obtain ⟨ho, hd⟩ := drop_get hk
  obtain ⟨e, a', w2, hq, harr⟩ := h (k + 1) hd b kk cs
  refine ⟨e, a', w2, hq, .of_steps (.one (step_lone_go ?_)) harr⟩
  have ho' : l.toArray[k]? = some o := by simpa using ho
  have hs := stepG_op (P := P) (b := b) (a := a) (k := kk) (cs := cs) (w := w) (rest := List.range' (k + 1) rest.length) ho' (by simp [Region.wanted, hg])
  rw [List.length_cons, List.range'_succ, hs]
  have hfin := Frame.finish_at b a l.toArray k (List.range' (k + 1) rest.length) kk v
  rw [ho'] at hfin
  simp only [Option.bind_some] at hfin
  rw [← hfin]
  simp [stepG.apply, hr]
theorem FromL.comm {cases : Array CommCase} {bl : Bool} {sh : CommShape} (hg : o.guard = none) (hr : (execOp a.eval o).run P w = .ok (.comm cases bl sh) w1) (hc : Comm w1 cases bl sh v w') (h : FromL P l Q rest (a.put o.dst v) w') : FromL P l Q (o :: rest) a w := by
  intro k hk b kk cs
  obtain ⟨ho, hd⟩ := drop_get hk
  obtain ⟨e, a', w2, hq, harr⟩ := h (k + 1) hd b kk cs
  have ho' : l.toArray[k]? = some o := by simpa using ho
  have hs := stepG_op (P := P) (b := b) (a := a) (k := kk) (cs := cs) (w := w) (rest := List.range' (k + 1) rest.length) ho' (by simp [Region.wanted, hg])
  refine ⟨e, a', w2, hq, .of_steps (.one (step_lone_comm (cases := cases) (bl := bl) (sh := sh) (w' := w1) ?_ ?_)) harr⟩
  · rw [List.length_cons, List.range'_succ, hs]
    simp [stepG.apply, hr]
  · rw [comm_next hc]
    congr 2
    have hfin := Frame.finish_at b a l.toArray k (List.range' (k + 1) rest.length) kk v
    rw [ho'] at hfin
    simp only [Option.bind_some] at hfin
    rw [List.length_cons, List.range'_succ]
    exact hfin
theorem wp_region_from {id : Nat} (h : FromL P l Q l a w) : (Code.region id l.toArray false).wp P Q a w := by
  intro b k cs
  obtain ⟨e, a', w', q, r⟩ := h 0 rfl b k cs
  refine ⟨e, a', w', q, .of_steps (.one step_region) ?_⟩
  have e1 : List.range l.toArray.size = List.range' 0 l.length := by rw [List.range_eq_range']; rfl
  rw [e1]
  exact r
end
/-! A channel's block; results of which the first is a struct. -/
theorem results_ctttt {P : Program} {fn : Func} {p q r s : Tmp} {ty : TypeId} (h : fn.results = #[.cell p ty, .tmp q, .tmp r, .tmp s]) (tmps : Array Value) (w : World) (g : Nat) (t : TypeId) (cs : Array Value) (fr : Nat × Nat) (d : TypeDesc) (hp : tmps.getD p undef = .pointer (some ⟨g, 0, none⟩)) (hg : w.heap[g]? = some (.cells cs t fr)) (hu : P.underlying ty = some d) (hd : (match d with | .struct _ | .array _ _ => true | _ => false) = true) (hi : (P.info? ty).map (·.size) = some cs.size) :
    (results fn tmps).run P w = .ok (.tuple #[.agg cs, tmps.getD q undef, tmps.getD r undef, tmps.getD s undef]) w := by
  have hp' : tmps[p]?.getD undef = .pointer (some ⟨g, 0, none⟩) := by simpa using hp
  simp [results, h, hp', asAddr, run_loadVar_row w g t ty cs fr d hg hu hd hi]
theorem chan_other {W : World} {r k : Nat} {o : Obj} (h : k ≠ r) : ({ W with heap := W.heap.setIfInBounds r o } : World).heap[k]? = W.heap[k]? := by
  simp only
  rw [Array.getElem?_setIfInBounds_ne (by omega)]
theorem chan_same {W : World} {r : Nat} {o o' : Obj} (h : W.heap[r]? = some o') : ({ W with heap := W.heap.setIfInBounds r o } : World).heap[r]? = some o := by
  have hl := (Array.getElem?_eq_some_iff.1 h).1
  simp [hl]
theorem chan_below {W : World} {B r : Nat} {o : Obj} (h : B ≤ r) : Below B W { W with heap := W.heap.setIfInBounds r o } :=
  ⟨rfl, rfl, rfl, by simp, fun k hk => chan_other (by omega)⟩
theorem chan_blk {W : World} {r k : Nat} {o x y : Obj} (hr : W.heap[r]? = some y) (h : W.heap[k]? = some x) (hne : x ≠ y) : ({ W with heap := W.heap.setIfInBounds r o } : World).heap[k]? = some x :=
  (chan_other (fun e => hne (by subst e; exact Option.some.inj (h.symm.trans hr)))).trans h
end Go.Proofs.Ytpolofolibabiaa.Ch
