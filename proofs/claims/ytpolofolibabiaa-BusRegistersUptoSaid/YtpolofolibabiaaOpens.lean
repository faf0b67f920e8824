/-
  Plain lemmas: what a reading of an argument gives of it, kind by kind: the cells hold a value of the kind, and its numbers are within their types.
  No conditions.
-/
import Derived.Test.YtpolofolibabiaaWWords
import Derived.OpenShut
import Derived.ChangeArms
import Derived.DataReads
import Derived.ChangeShapes
import Derived.WideLaws
namespace Go.Proofs.Ytpolofolibabiaa.Op
open Go.RowKit Go.Proofs.YtpolofolibabiaaW.PrintWords

/-- Readings at type t are of kind d, and meet wf. -/
structure Opens {α : Type} (P : Program) (t : TypeId) (d : Kd α) (wf : α → Prop) : Prop where
  size : P.cellsOf t = d.sz
  opens : ∀ {H : Type} {enc : TypeId × Value → H} {w : World} {base : Nat} {spare : Nat → Bool} {held : Bool} {fuel : Nat} {cs : List Value} {x : DataW H × List MemPlace},
    DataW.trod enc P w base spare held fuel t cs = some x → ∃ a, d.K w a cs ∧ wf a

theorem Opens.weak {α : Type} {P : Program} {t : TypeId} {d : Kd α} {wf wf' : α → Prop} (h : Opens P t d wf) (hw : ∀ a, wf a → wf' a) : Opens P t d wf' :=
  ⟨h.size, fun hx => let ⟨a, h1, h2⟩ := h.opens hx; ⟨a, h1, hw a h2⟩⟩

theorem Opens.int {P : Program} {t : TypeId} {k : IntKind} (hu : P.underlying t = some (.int k)) (hc : P.cellsOf t = 1) : Opens P t (Kd.int k) (fun n => (Lit.int k n).wf = true) :=
  ⟨hc, fun hx => by
    obtain ⟨n, rfl, rfl, hw⟩ := DataW.trod_int hu hx
    exact ⟨n, rfl, hw⟩⟩

theorem Opens.bool {P : Program} {t : TypeId} (hu : P.underlying t = some .bool) (hc : P.cellsOf t = 1) : Opens P t Kd.bool (fun _ => True) :=
  ⟨hc, fun hx => by
    obtain ⟨n, rfl, rfl⟩ := DataW.trod_bool hu hx
    exact ⟨n, rfl, trivial⟩⟩

theorem Opens.string {P : Program} {t : TypeId} (hu : P.underlying t = some .string) (hc : P.cellsOf t = 1) : Opens P t Kd.string (fun s => s.size ≤ maxLen) :=
  ⟨hc, fun hx => by
    obtain ⟨n, rfl, rfl, hw⟩ := DataW.trod_string hu hx
    exact ⟨n, rfl, hw⟩⟩

theorem add_add (a : Addr) (m n : Nat) : (a.add m).add n = a.add (m + n) := by
  unfold Addr.add
  by_cases hm : m = 0
  · subst hm
    simp
  · by_cases hn : n = 0
    · subst hn
      simp
    · simp only [hm, hn, if_false]
      rw [if_neg (by omega)]
      simp only [Nat.add_assoc]

/-- A list of values that meet a relation, one each. -/
theorem choose_list {α β : Type} (R : β → α → Prop) : ∀ (l : List β), (∀ b ∈ l, ∃ a, R b a) → ∃ as : List α, as.length = l.length ∧ ∀ (i : Nat) (b : β) (a : α), l[i]? = some b → as[i]? = some a → R b a
  | [], _ => ⟨[], rfl, fun i b a hb => by simp at hb⟩
  | b :: l, h => by
    obtain ⟨a, ha⟩ := h b (by simp)
    obtain ⟨as, hl, hr⟩ := choose_list R l (fun c hc => h c (by simp [hc]))
    refine ⟨a :: as, by simp [hl], fun i b' a' hb ha' => ?_⟩
    cases i with
    | zero => simp at hb ha'; subst hb; subst ha'; exact ha
    | succ i => simp at hb ha'; exact hr i b' a' hb ha'

theorem Opens.slice {α : Type} {P : Program} {t e : TypeId} {d : Kd α} {wf : α → Prop} (hu : P.underlying t = some (.slice e)) (hc : P.cellsOf t = 1) (he : Opens P e d wf) :
    Opens P t (Kd.slice e d) (fun l => l.length ≤ maxLen ∧ ∀ x ∈ l, wf x) :=
  ⟨hc, fun {H enc w base spare held fuel cs x} hx => by
    rcases DataW.trod_slice hu hx with ⟨rfl, rfl⟩ | ⟨a, len, cap, elems, rest, n, _, rfl, rfl, hb, hl, hm, hlen, hel, _, _⟩
    · exact ⟨[], ⟨none, 0, rfl, Nat.le_refl _, Kd.C_nil d w⟩, by simp⟩
    · have each : ∀ i : Nat, i < len → ∃ (c : List Value) (y : α), c.length = d.sz ∧ d.K w y c ∧ wf y ∧ ∀ j u, c[j]? = some u → w.cell? (a.add (i * d.sz + j)) = some u := by
        intro i hi
        have h := hel i hi
        rw [List.getElem?_eq_getElem (by omega), Option.bind_eq_some_iff] at h
        obtain ⟨c, hcs, hy⟩ := h
        obtain ⟨y, hk, hw⟩ := he.opens hy
        obtain ⟨_, hcl, hcc⟩ := World.cells?_some hcs
        rw [he.size] at hcl hcc
        refine ⟨c, y, hcl, hk, hw, fun j u hj => ?_⟩
        have hjl : j < d.sz := by rw [← hcl]; exact (List.getElem?_eq_some_iff.1 hj).1
        have := hcc j hjl
        rw [add_add] at this
        rw [this]
        exact hj
      obtain ⟨ys, hyl, hys⟩ := choose_list (fun (i : Nat) (y : α) => ∃ c : List Value, c.length = d.sz ∧ d.K w y c ∧ wf y ∧ ∀ j u, c[j]? = some u → w.cell? (a.add (i * d.sz + j)) = some u) (List.range len)
        (fun i hi => by
          obtain ⟨c, y, h⟩ := each i (List.mem_range.1 hi)
          exact ⟨y, c, h⟩)
      rw [List.length_range] at hyl
      have hyi : ∀ i y, ys[i]? = some y → ∃ c : List Value, c.length = d.sz ∧ d.K w y c ∧ wf y ∧ ∀ j u, c[j]? = some u → w.cell? (a.add (i * d.sz + j)) = some u := by
        intro i y hy
        have hil : i < len := by rw [← hyl]; exact (List.getElem?_eq_some_iff.1 hy).1
        exact hys i i y (by rw [List.getElem?_range hil]) hy
      have hmax : len ≤ 9223372036854775807 := by
        unfold maxLen at hm
        omega
      refine ⟨ys, ⟨some a, cap, by rw [hyl], by omega, ?_⟩, ?_, ?_⟩
      · refine ⟨rfl, by omega, fun _ => ⟨a, rfl, fun j p hj => ?_⟩⟩
        obtain ⟨c, h1, h2, _, h3⟩ := hyi j p hj
        exact ⟨c, h1, h2, h3⟩
      · omega
      · intro y hy
        obtain ⟨i, hi⟩ := List.mem_iff_getElem?.1 hy
        obtain ⟨c, _, _, h, _⟩ := hyi i y hi
        exact h⟩

theorem wf_iff (k : IntKind) (n : Int) : (Lit.int k n).wf = true ↔ k.min ≤ n ∧ n ≤ k.max := by simp [Lit.wf]
theorem wf_u8 {n : Int} (h : (Lit.int .u8 n).wf = true) : 0 ≤ n ∧ n < 256 := by
  rw [wf_iff, show IntKind.u8.min = 0 by decide, show IntKind.u8.max = 255 by decide] at h
  omega
theorem wf_u16 {n : Int} (h : (Lit.int .u16 n).wf = true) : 0 ≤ n ∧ n < 65536 := by
  rw [wf_iff, show IntKind.u16.min = 0 by decide, show IntKind.u16.max = 65535 by decide] at h
  omega
theorem wf_u32 {n : Int} (h : (Lit.int .u32 n).wf = true) : 0 ≤ n ∧ n < 4294967296 := by
  rw [wf_iff, show IntKind.u32.min = 0 by decide, show IntKind.u32.max = 4294967295 by decide] at h
  omega
theorem wf_i64 {n : Int} (h : (Lit.int .i64 n).wf = true) : -9223372036854775808 ≤ n ∧ n < 9223372036854775808 := by
  rw [wf_iff, show IntKind.i64.min = -9223372036854775808 by decide, show IntKind.i64.max = 9223372036854775807 by decide] at h
  omega
theorem wf_u64 {n : Int} (h : (Lit.int .u64 n).wf = true) : 0 ≤ n ∧ n < 18446744073709551616 := by
  rw [wf_iff, show IntKind.u64.min = 0 by decide, show IntKind.u64.max = 18446744073709551615 by decide] at h
  omega

/-- A struct's fields from cell o on are of kind d. -/
structure OpensF {α : Type} (P : Program) (fs : List Field) (o : Nat) (d : Kd α) (wf : α → Prop) : Prop where
  opens : ∀ {H : Type} {enc : TypeId × Value → H} {w : World} {base : Nat} {spare : Nat → Bool} {held : Bool} {fuel : Nat} {cs : List Value},
    cs.length = o + d.sz → (∀ f ∈ fs, ∃ x, DataW.trod enc P w base spare held fuel f.type ((cs.drop f.offset).take (P.cellsOf f.type)) = some x) → ∃ a, d.K w a (cs.drop o) ∧ wf a

theorem OpensF.one {α : Type} {P : Program} {f : Field} {o : Nat} {d : Kd α} {wf : α → Prop} (ho : f.offset = o) (h : Opens P f.type d wf) : OpensF P [f] o d wf :=
  ⟨fun {H enc w base spare held fuel cs} hl hx => by
    obtain ⟨x, hx⟩ := hx f (by simp)
    rw [h.size, ho, List.take_of_length_le (by rw [List.length_drop]; omega)] at hx
    exact h.opens hx⟩

theorem OpensF.cons {α β : Type} {P : Program} {f : Field} {fs : List Field} {o : Nat} {d : Kd α} {d' : Kd β} {wf : α → Prop} {wf' : β → Prop} (ho : f.offset = o) (h : Opens P f.type d wf) (hr : OpensF P fs (o + d.sz) d' wf') :
    OpensF P (f :: fs) o (Kd.pair d d') (fun p => wf p.1 ∧ wf' p.2) :=
  ⟨fun {H enc w base spare held fuel cs} hl hx => by
    have hl' : cs.length = o + (d.sz + d'.sz) := hl
    obtain ⟨x, hx0⟩ := hx f (by simp)
    rw [h.size, ho] at hx0
    obtain ⟨a, ha, hwa⟩ := h.opens hx0
    obtain ⟨b, hb, hwb⟩ := hr.opens (cs := cs) (by omega) (fun g hg => hx g (by simp [hg]))
    refine ⟨(a, b), ⟨(cs.drop o).take d.sz, cs.drop (o + d.sz), ?_, ha, hb⟩, hwa, hwb⟩
    rw [← List.drop_drop]
    exact (List.take_append_drop _ _).symm⟩

theorem Opens.struct {α : Type} {P : Program} {t : TypeId} {fs : Array Field} {d : Kd α} {wf : α → Prop} (hu : P.underlying t = some (.struct fs)) (hs : P.cellsOf t = d.sz) (h : OpensF P fs.toList 0 d wf) : Opens P t d wf :=
  ⟨hs, fun {H enc w base spare held fuel cs x} hx => by
    obtain ⟨xs, n, rfl, rfl, hl, hxl, hi⟩ := DataW.trod_struct hu hx
    refine h.opens (cs := cs) (fuel := n) (enc := enc) (base := base) (spare := spare) (held := held) (by omega) (fun f hf => ?_)
    obtain ⟨i, hif⟩ := List.mem_iff_getElem?.1 hf
    have hil : i < xs.length := by
      have := (List.getElem?_eq_some_iff.1 hif).1
      rw [Array.length_toList] at this
      omega
    exact ⟨xs[i], by rw [hi i f (by rw [← Array.getElem?_toList]; exact hif)]; exact List.getElem?_eq_getElem hil⟩⟩

theorem Opens.iso {α β : Type} {P : Program} {t : TypeId} {d : Kd α} {wf : α → Prop} {f : β → α} {g : α → β} (hg : ∀ a, f (g a) = a) (h : Opens P t d wf) : Opens P t (Kd.iso d f) (fun x => wf (f x)) :=
  ⟨h.size, fun hx => by
    obtain ⟨a, ha, hw⟩ := h.opens hx
    refine ⟨g a, ?_, by rw [hg]; exact hw⟩
    show d.K _ (f (g a)) _
    rw [hg]
    exact ha⟩

end Go.Proofs.Ytpolofolibabiaa.Op
