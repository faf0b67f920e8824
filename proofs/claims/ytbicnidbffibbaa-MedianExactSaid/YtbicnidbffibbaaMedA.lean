/-
  Walks of median.Take's parts.
  No conditions.
-/
import Derived.Test.YtbicnidbffibbaaProg
import Derived.Tactics
import Derived.WalkKit
import Derived.KernelRfl
import Derived.Test.YtbicnidbffibbaaWWords
import Derived.Test.YtbicnidbffibbaaWLast
import Derived.Test.YtbicnidbffibbaaWMore
import Derived.Shelf.SlSortCmp.Small
import Derived.Shelf.SlicesQ.IndexFunc
import Derived.Shelf.SlicesE.Clone
import Derived.Shelf.Small.Bits
import Derived.Shelf.Lay
import Derived.Ground.SlsfProg
import Derived.Ground.SlgfProg
import Derived.Ground.SlgnProg
import Derived.Ground.NamesProg
namespace Go.Proofs.Ytbicnidbffibbaa.Md
open Go.Shelf Go.RowKit Go.Lib Go.Sort Go.Proofs.YtbicnidbffibbaaW.PrintWords Go.Proofs.YtbicnidbffibbaaW.PrintLast Go.Proofs.YtbicnidbffibbaaW.PrintMore
set_option linter.unusedVariables false
set_option linter.unusedSimpArgs false
theorem retb {x y : Bool} (h : x = y) : Ending.returned (.bool x) = .returned (.bool y) := by rw [h]
shelf_lay_g SlLaysF.n6 Slsf 6 at Try 28 as Try.sortM
shelf_lay_g SlLaysH0.n8 Slgf 8 at Try 18 as Try.contM
shelf_lay_g SlLaysE0.n41 Slgn 41 at Try 20 as Try.cloneM
shelf_lay Lays.n125 Nm 125 at Try as Try.lenM
def gd1 (x : Int) : Bool := decide (-35184372088832 < x ∧ x < 35184372088832)
def gd3 (x y z : Int) : Bool := gd1 x && gd1 y && gd1 z
set_option maxHeartbeats 4000000 in
theorem vecGood (x y z : Int) (w : World) : Calls Try.prog 17 #[.agg #[.int .i64 x, .int .i64 y, .int .i64 z]] w fun e w' => e = .returned (.bool (gd3 x y z)) ∧ Below w.heap.size w w' := by
  go_enter Try.func17, Try.ntmps17
  go_wp2
  refine wp_loop_rounds 4 ?_
  rw [rounds_succ]
  go_wp2
  any_goals (rw [rounds_succ]; go_wp2)
  any_goals (rw [rounds_succ]; go_wp2)
  any_goals (rw [rounds_succ]; go_wp2)
  all_goals (go_ret; refine ⟨retb ?_, ((Below.refl w.heap.size w).alloc (Nat.le_refl _) _).alloc (by simp) _⟩)
  all_goals first
    | rfl
    | (rw [Bool.eq_iff_iff]; simp only [gd3, gd1, Bool.and_eq_true, decide_eq_true_eq, Bool.not_eq_true', decide_eq_false_iff_not, Bool.not_eq_false', Bool.false_eq_true, false_iff, true_iff] at *; omega)
theorem medCmp (x y : Int) (W : World) : Calls Try.prog 29 #[.int .i64 x, .int .i64 y] W fun e w' => e = .returned (.int .i64 (Lib.compareInt x y)) ∧ ∃ q, w' = W.drewN q := by
  go_enter Try.func29, Try.ntmps29
  go_wp2
  all_goals (go_ret; refine ⟨?_, 0, rfl⟩)
  all_goals (unfold Lib.compareInt; (repeat' split) <;> first | rfl | (exfalso; omega) | (exfalso; simp_all; done))
theorem mid_one {xs : List Int} {k : Nat} {a b : Int} (ha : k < xs.countP (fun x => decide (x ≤ a))) (hb : xs.countP (fun x => decide (x < b)) ≤ k) : b ≤ a := by
  rcases Int.lt_or_le a b with h | h
  · have : xs.countP (fun x => decide (x ≤ a)) ≤ xs.countP (fun x => decide (x < b)) := List.countP_mono_left (fun x _ hx => by simp only [decide_eq_true_eq] at hx ⊢; omega)
    omega
  · exact h
def midOf (xs : List Int) : Int := (xs.find? fun a => decide (xs.countP (fun b => decide (b < a)) ≤ (xs.length - 1) / 2) && decide ((xs.length - 1) / 2 < xs.countP (fun b => decide (b ≤ a)))).getD 0
theorem midOf_eq {xs : List Int} {m : Int} (hm : m ∈ xs) (h1 : xs.countP (fun b => decide (b < m)) ≤ (xs.length - 1) / 2) (h2 : (xs.length - 1) / 2 < xs.countP (fun b => decide (b ≤ m))) : midOf xs = m := by
  unfold midOf
  cases hf : xs.find? (fun a => decide (xs.countP (fun b => decide (b < a)) ≤ (xs.length - 1) / 2) && decide ((xs.length - 1) / 2 < xs.countP (fun b => decide (b ≤ a)))) with
  | none =>
    have := List.find?_eq_none.1 hf m hm
    simp [h1, h2] at this
  | some a =>
    have h := List.find?_some hf
    simp only [Bool.and_eq_true, decide_eq_true_eq] at h
    show a = m
    have e1 := mid_one h.2 h1
    have e2 := mid_one h2 h.1
    omega
theorem mid_sorted {xs L : List Int} (hp : L.Perm xs) (hs : ∀ i j (hi : i < j) (hj : j < L.length), L[i] ≤ L[j]) (k : Nat) (hk : k = (xs.length - 1) / 2) (hkl : k < L.length) : midOf xs = L[k] := by
  have hlen := hp.length_eq
  obtain ⟨m, hm⟩ : ∃ m, m = L[k] := ⟨_, rfl⟩
  have hmem : L[k] ∈ xs := hp.mem_iff.1 (List.getElem_mem hkl)
  rw [← hm] at hmem ⊢
  refine midOf_eq hmem ?_ ?_
  · rw [← hp.countP_eq, ← hk]
    conv => lhs; rw [← List.take_append_drop k L]
    rw [List.countP_append]
    have h1 : (L.take k).countP (fun b => decide (b < m)) ≤ k := Nat.le_trans List.countP_le_length (by rw [List.length_take]; omega)
    have h2 : (L.drop k).countP (fun b => decide (b < m)) = 0 := by
      rw [List.countP_eq_zero]
      intro a ha
      obtain ⟨q, hq, rfl⟩ := List.mem_iff_getElem.1 ha
      rw [List.getElem_drop, hm]
      rw [List.length_drop] at hq
      simp only [decide_eq_true_eq]
      rcases Nat.eq_zero_or_pos q with rfl | h0
      · simp
      · have := hs k (k + q) (by omega) (by omega)
        omega
    omega
  · rw [← hp.countP_eq, ← hk]
    have h1 : (L.take (k + 1)).countP (fun b => decide (b ≤ m)) = k + 1 := by
      have : (L.take (k + 1)).countP (fun b => decide (b ≤ m)) = (L.take (k + 1)).length := by
        rw [List.countP_eq_length]
        intro a ha
        obtain ⟨q, hq, rfl⟩ := List.mem_iff_getElem.1 ha
        rw [List.length_take] at hq
        rw [List.getElem_take, hm]
        simp only [decide_eq_true_eq]
        rcases Nat.lt_or_ge q k with h | h
        · exact hs q k h hkl
        · have : q = k := by omega
          subst this
          exact Int.le_refl _
      rw [this, List.length_take]
      omega
    have h2 : (L.take (k + 1)).countP (fun b => decide (b ≤ m)) ≤ L.countP (fun b => decide (b ≤ m)) := List.Sublist.countP_le (List.take_sublist _ _)
    omega
theorem medLt (x y : Int) : ltOf Lib.compareInt x y = decide (x < y) := by
  unfold ltOf Lib.compareInt
  by_cases h1 : x < y
  · simp [h1]
  · by_cases h2 : y < x <;> simp [h1, h2]
theorem medSwo : SWO (ltOf Lib.compareInt) where
  irrefl x := by rw [medLt]; simp
  trans x y z h1 h2 := by rw [medLt] at *; simp at *; omega
  ntrans x y z h1 h2 := by rw [medLt] at *; simp at *; omega
theorem medBelow {B blk off n : Nat} {d : Array Int} {w : World} (hB : B ≤ blk) : RowKit.Below B w ((putRow (Value.int .i64) w blk off d).drewN n) :=
  ⟨rfl, rfl, rfl, by simp [putRow, mapBlock], fun k hk => by
    simp only [World.heap_drewN, putRow, mapBlock, Array.getElem?_modify]
    rw [if_neg (by omega)]⟩
theorem medSort {w : World} {base : Nat} {v : Value} {xs : List Int} (ho : Kd.R (Kd.int .i64) 2 w base (fun _ => True) v xs) (hn : 0 < xs.length) (hl : xs.length ≤ 7) :
    ∃ blk cap, v = .slice (some ⟨blk, 0, none⟩) xs.length cap ∧ base ≤ blk ∧ Calls Try.prog 28 #[v, .func (.func 29) #[] #[]] w fun e w' => e = .returned (.tuple #[]) ∧
      w'.cell? ⟨blk, (xs.length - 1) / 2, none⟩ = some (.int .i64 (midOf xs)) ∧ RowKit.Below base w w' := by
  obtain ⟨_, inner, hown, hrep⟩ := ho
  rcases hown.2 with ⟨_, h0⟩ | ⟨g, cap, cur, rfl, hg, hh, hnc, hcm, hcs, ht⟩
  · omega
  refine ⟨g, cap, rfl, hg, ?_⟩
  have hcell : ∀ j (hj : j < xs.length), w.cell? ⟨g, 0 + j, none⟩ = some (.int .i64 xs[j]) := by
    intro j hj
    have hC := (Kd.R_reads' (d := Kd.int .i64) (e := 2) ⟨fun _ _ => trivial, inner, hown, hrep⟩).2.2
    obtain ⟨ad, he, hc⟩ := hC.2.2 hn
    cases he
    obtain ⟨c, _, hK, hcc⟩ := hc j _ (List.getElem?_eq_getElem hj)
    have hK' : c = [.int .i64 xs[j]] := hK
    subst hK'
    have h := hcc 0 _ rfl
    rw [add_at] at h
    rw [← h]
    congr 2
    show 0 + j = 0 + (j * 1 + 0)
    omega
  have hH : Holds (Value.int .i64) w g 0 xs.toArray := by
    intro j hj
    have hj' : j < xs.length := by simpa using hj
    refine ⟨?_, ?_⟩
    · rw [hcell j hj']
      simp [hj']
    · simp [World.frozen?, hh]
  have eg : ∀ args w, (callFunc 29 args).run Try.prog w = .ok (.enter 29 args) w := enters_of Try.func29 (by kernel_rfl) rfl
  have h := Any.slices_SortFunc_small_sorted Try.sortM (Value.int .i64) (fun _ => rfl) Lib.compareInt medSwo 29 #[] g 0 cap xs.toArray w eg (fun _ _ _ _ x y => medCmp x y _) hH (by simp; omega)
    (fun n W hn => (Any.bits_Len Try.lenM n W (by omega) (by omega)).mono fun _ _ ⟨he, hw⟩ => ⟨⟨_, he⟩, hw⟩)
  rw [List.size_toArray] at h
  refine h.mono fun e w' hh => ?_
  obtain ⟨he, d', n, hp, hs, rfl⟩ := hh
  refine ⟨he, ?_, medBelow hg⟩
  have hsz : d'.size = xs.length := by simpa using hp.1
  have hjk : (xs.length - 1) / 2 < d'.size := by rw [hsz]; omega
  have hc := cell?_putRow (Value.int .i64) w g 0 xs.toArray d' hH (by simpa using hsz) ((xs.length - 1) / 2) hjk
  rw [World.cell?_drewN]
  rw [Nat.zero_add] at hc
  rw [hc]
  have hP : d'.toList.Perm xs := by
    have := hp.2.2
    rw [show (d'.extract 0 xs.length).toList = d'.toList by rw [← hsz]; simp] at this
    rw [show (xs.toArray.extract 0 xs.length).toList = xs by simp] at this
    exact this
  have hk : (xs.length - 1) / 2 < d'.toList.length := by rw [Array.length_toList]; omega
  rw [mid_sorted hP (fun i j hi hj => by
    rw [Array.length_toList] at hj
    have := hs i j (Nat.zero_le _) hi (by omega)
    rw [medLt] at this
    simp only [decide_eq_false_iff_not] at this
    rw [getElem!_pos d' i (by omega), getElem!_pos d' j (by omega)] at this
    simp only [Array.getElem_toList]
    omega) ((xs.length - 1) / 2) rfl hk]
  rw [getElem!_pos d' _ (by omega)]
  simp
end Go.Proofs.Ytbicnidbffibbaa.Md
