/-
  The pure law of CrcExact: the table's sums are the page's, bit by bit.
  No conditions.
-/
import Derived.Test.YthmhfllpgnokiaaSpecCrcExact
import Derived.Test.YthmhfllpgnokiaaCrcM
import Derived.Test.YthmhfllpgnokiaaOpens
namespace Go.Proofs.Ythmhfllpgnokiaa.Pure
open Go.RowKit Go.Proofs.Ythmhfllpgnokiaa.Op Go.Proofs.Ythmhfllpgnokiaa.PCrcExact Go.Proofs.YthmhfllpgnokiaaW.PrintWords Go.Proofs.YthmhfllpgnokiaaW.PrintLast Go.Proofs.YthmhfllpgnokiaaW.PrintMore
theorem w64 {x : Int} (h : -9223372036854775808 ≤ x) (h2 : x < 9223372036854775808) : wrap64 x = x := by
  unfold wrap64
  omega
theorem crcIt_front (n : Nat) (x : Int) : crcIt n (crcStep x) = crcIt (n + 1) x := by
  induction n with
  | zero => rfl
  | succ n ih => show crcStep (crcIt n (crcStep x)) = crcStep (crcIt (n + 1) x); rw [ih]
theorem ref_inner (l : List Int) (i : Int) (R : Int) (d : Nat) : ∀ (x j : Int), 0 ≤ j → j + d = 8 → Ev (fun k => gimbalref22_Sum.l0 k l (crcIt d x) (wrap64 (i + 1))) R → Ev (fun k => gimbalref22_Sum.l1 k l x i j) R := by
  induction d with
  | zero =>
    intro x j h0 hj h
    refine Ev.step (fun k => ?_) h
    simp only [gimbalref22_Sum.l1]
    rw [if_neg (by omega)]
    rfl
  | succ d ih =>
    intro x j h0 hj h
    have h' : Ev (fun k => gimbalref22_Sum.l0 k l (crcIt d (crcStep x)) (wrap64 (i + 1))) R := by rw [crcIt_front]; exact h
    refine Ev.step (fun k => ?_) (ih (crcStep x) (wrap64 (j + 1)) (by rw [w64 (by omega) (by omega)]; omega) (by rw [w64 (by omega) (by omega)]; omega) h')
    simp only [gimbalref22_Sum.l1]
    rw [if_pos (by omega)]
    unfold crcStep
    split <;> rfl
theorem ref_byte (s : BitVec 16) (y : Int) (h0 : 0 ≤ y) (h1 : y < 256) : crcIt 8 (Go.bits .xor .u16 ((s.toNat : Nat) : Int) (IntKind.u16.wrap ((IntKind.u16.wrap y) * 256))) = stepOf ((s.toNat : Nat) : Int) y := by
  have hs := s.isLt
  rw [stepOf_bv s y h0 h1, ← crcIt_bv, BitVec.toNat_xor]
  unfold YB
  rw [BitVec.toNat_ofNat, Nat.mod_eq_of_lt (show y.toNat * 256 < 2 ^ 16 by omega), ← u16_xor_nat _ _ hs (by omega)]
  rw [IntKind.wrap_u16, IntKind.wrap_u16]
  rw [show y % 65536 * 256 % 65536 = ((y.toNat * 256 : Nat) : Int) by omega]
theorem ref_outer (l : List Int) (hb : bytes l) (hl : l.length ≤ 9223372036854775806) (d : Nat) : ∀ i : Nat, i + d = l.length → Ev (fun k => gimbalref22_Sum.l0 k l (sumB l i) (i : Int)) (sumB l l.length) := by
  induction d with
  | zero =>
    intro i hi
    obtain rfl : i = l.length := by omega
    refine Ev.step (f := fun _ => some (sumB l l.length)) (fun k => ?_) (Ev.now _)
    simp only [gimbalref22_Sum.l0]
    rw [if_neg (by omega)]
  | succ d ih =>
    intro i hi
    have hy := bytes_rd hb i
    have h := ih (i + 1) (by omega)
    have h' : Ev (fun k => gimbalref22_Sum.l1 k l (Go.bits .xor .u16 (sumB l i) (IntKind.u16.wrap ((IntKind.u16.wrap (rd l i)) * 256))) i 0) (sumB l l.length) := by
      refine ref_inner l i _ 8 _ 0 (by omega) (by omega) ?_
      rw [w64 (by omega) (by omega), sumB_bv l hb i, ref_byte _ _ hy.1 hy.2, ← sumB_bv l hb i]
      exact h
    refine Ev.step (fun k => ?_) h'
    simp only [gimbalref22_Sum.l0]
    rw [if_pos (by omega), if_pos (by omega)]
/-- The page's sum is the table's. -/
theorem ref_sum (l : List Int) (hb : bytes l) (hl : l.length ≤ 9223372036854775806) : Ev (fun k => gimbalref22_Sum.f k l) (sumB l l.length) := ref_outer l hb hl l.length 0 (by omega)
/-- A word's bytes, the highest first. -/
def wb (x : Int) : List Int := [x / 16777216 % 256, x / 65536 % 256, x / 256 % 256, x % 256]
def wbs (l : List Int) : Nat → List Int
  | 0 => []
  | k + 1 => wbs l k ++ wb (rd l k)
theorem wbs_length (l : List Int) (k : Nat) : (wbs l k).length = 4 * k := by
  induction k with
  | zero => rfl
  | succ k ih => simp [wbs, wb, ih]; omega
theorem wbs_bytes (l : List Int) (k : Nat) : bytes (wbs l k) := by
  induction k with
  | zero => intro y hy; simp [wbs] at hy
  | succ k ih =>
    intro y hy
    simp only [wbs, wb, List.mem_append, List.mem_cons, List.not_mem_nil, or_false] at hy
    rcases hy with h | h | h | h | h
    · exact ih y h
    all_goals (subst h; omega)
theorem sumB_pre (a b : List Int) (k : Nat) (hk : k ≤ a.length) : sumB (a ++ b) k = sumB a k := by
  induction k with
  | zero => rfl
  | succ k ih =>
    show stepOf (sumB (a ++ b) k) (rd (a ++ b) k) = stepOf (sumB a k) (rd a k)
    rw [ih (by omega)]
    unfold rd
    rw [Int.toNat_natCast, List.getD_eq_getElem?_getD, List.getD_eq_getElem?_getD, List.getElem?_append_left (by omega)]
theorem rd_app (a b : List Int) (j : Nat) : rd (a ++ b) ((a.length + j : Nat) : Int) = rd b j := by
  unfold rd
  rw [Int.toNat_natCast, Int.toNat_natCast, List.getD_eq_getElem?_getD, List.getD_eq_getElem?_getD, List.getElem?_append_right (by omega), Nat.add_sub_cancel_left]
theorem sumW_B (l : List Int) (k : Nat) : sumW l k = sumB (wbs l k) (4 * k) := by
  induction k with
  | zero => rfl
  | succ k ih =>
    have hl := wbs_length l k
    show inn4 (sumW l k) (rd l k) 0 = _
    rw [show 4 * (k + 1) = 4 * k + 1 + 1 + 1 + 1 by omega]
    show _ = stepOf (stepOf (stepOf (stepOf (sumB (wbs l (k + 1)) (4 * k)) (rd (wbs l (k + 1)) ((4 * k : Nat) : Int))) (rd (wbs l (k + 1)) ((4 * k + 1 : Nat) : Int))) (rd (wbs l (k + 1)) ((4 * k + 1 + 1 : Nat) : Int))) (rd (wbs l (k + 1)) ((4 * k + 1 + 1 + 1 : Nat) : Int))
    have e0 := rd_app (wbs l k) (wb (rd l k)) 0
    have e1 := rd_app (wbs l k) (wb (rd l k)) 1
    have e2 := rd_app (wbs l k) (wb (rd l k)) 2
    have e3 := rd_app (wbs l k) (wb (rd l k)) 3
    rw [hl] at e0 e1 e2 e3
    show _ = stepOf (stepOf (stepOf (stepOf (sumB (wbs l k ++ wb (rd l k)) (4 * k)) (rd (wbs l k ++ wb (rd l k)) ((4 * k : Nat) : Int))) (rd (wbs l k ++ wb (rd l k)) ((4 * k + 1 : Nat) : Int))) (rd (wbs l k ++ wb (rd l k)) ((4 * k + 1 + 1 : Nat) : Int))) (rd (wbs l k ++ wb (rd l k)) ((4 * k + 1 + 1 + 1 : Nat) : Int))
    rw [sumB_pre _ _ _ (by omega), ← ih]
    rw [show ((4 * k : Nat) : Int) = ((4 * k + 0 : Nat) : Int) from rfl, e0, e1, show 4 * k + 1 + 1 = 4 * k + 2 from rfl, e2, show 4 * k + 2 + 1 = 4 * k + 3 from rfl, e3]
    rfl
theorem refw_loop (l : List Int) (hl : l.length ≤ 100000) (d : Nat) : ∀ i : Nat, i + d = l.length → Ev (fun k => gimbalref22_Words.l0 k l (wbs l i) (i : Int)) (sumW l l.length) := by
  induction d with
  | zero =>
    intro i hi
    obtain rfl : i = l.length := by omega
    have hwl := wbs_length l l.length
    have hs := ref_sum (wbs l l.length) (wbs_bytes l _) (by omega)
    rw [hwl, ← sumW_B] at hs
    refine Ev.step (fun k => ?_) (Ev.bind (f := fun _ t => some t) hs (Ev.now _))
    simp only [gimbalref22_Words.l0]
    rw [if_neg (by omega)]
  | succ d ih =>
    intro i hi
    have hwl := wbs_length l i
    refine Ev.step (fun k => ?_) (ih (i + 1) (by omega))
    simp only [gimbalref22_Words.l0, Option.bind_some]
    rw [if_pos (by omega), if_pos (by omega), if_pos (by rw [hwl]; simp; omega), w64 (by omega) (by omega)]
    rfl
theorem ref_words (l : List Int) (hl : l.length ≤ 100000) : Ev (fun k => gimbalref22_Words.f k l) (sumW l l.length) := refw_loop l hl l.length 0 (by omega)
theorem main_loop (l : List S27) (_hl : l.length ≤ 9223372036854775807) (hw : ∀ y ∈ l, wf27 y) (d : Nat) : ∀ i : Nat, i + d = l.length → Ev (fun k => gimballaw22_CrcExact.l0 k l (i : Int)) true := by
  induction d with
  | zero =>
    intro i hi
    refine Ev.step (f := fun k => gimballaw22_CrcExact.j1 k l i false) (fun k => ?_) (Ev.step (f := fun _ => some true) (fun k => ?_) (Ev.now _))
    · simp only [gimballaw22_CrcExact.l0]
      rw [if_neg (by omega)]
    · simp only [gimballaw22_CrcExact.j1, gimballaw22_wakes.f]
      rfl
  | succ d ih =>
    intro i hi
    refine Ev.step (f := fun k => gimballaw22_CrcExact.j1 k l i (decide ((i : Int) < 20))) (fun k => ?_) ?_
    · simp only [gimballaw22_CrcExact.l0]
      rw [if_pos (by omega)]
    by_cases h20 : (i : Int) < 20
    · have hm : rd_T27 l i ∈ l := by
        unfold rd_T27
        rw [Int.toNat_natCast, List.getD_eq_getElem?_getD, List.getElem?_eq_getElem (by omega)]
        exact List.getElem_mem _
      obtain ⟨⟨_, hb⟩, ⟨_, hws⟩, _, _⟩ := hw _ hm
      obtain ⟨x, hx⟩ : ∃ x, x = rd_T27 l i := ⟨_, rfl⟩
      rw [← hx] at hb hws
      have hb' : bytes x.f0 := fun y hy => wf_u8 (hb y hy)
      have next : ∀ b, (b = true ∨ (x.f0.length ≤ 3000 ∧ x.f1.length ≤ 1000)) → Ev (fun k => gimballaw22_CrcExact.j2 k l i b x.f0 x.f1 x.f2 x.f3) true := by
        intro b hcase
        cases b with
        | true =>
          refine Ev.step (f := fun _ => some true) (fun k => ?_) (Ev.now _)
          simp only [gimballaw22_CrcExact.j2, if_true]
        | false =>
          rcases hcase with h | ⟨h3, h1⟩
          · cases h
          refine Ev.step (f := fun k => (gimbalref22_Sum.f k x.f0).bind fun t117 => (if sumB x.f0 x.f0.length = t117 then ((gimbalref22_Words.f k x.f1).bind fun t119 => (if sumW x.f1 x.f1.length = t119 then (gimballaw22_CrcExact.l0 k l (wrap64 ((i : Int) + 1))) else (some false))) else (some false))) (fun k => ?_) ?_
          · simp only [gimballaw22_CrcExact.j2, crc_Sum.f, crc_Words.f, Option.bind_some]
            rw [if_neg (by simp)]
          refine Ev.bind (ref_sum x.f0 hb' (by omega)) ?_
          simp only [if_true]
          refine Ev.bind (ref_words x.f1 (by omega)) ?_
          simp only [if_true]
          rw [w64 (by omega) (by omega)]
          exact ih (i + 1) (by omega)
      by_cases h3 : (x.f0.length : Int) > 3000
      · refine Ev.step (fun k => ?_) (next true (.inl rfl))
        simp only [gimballaw22_CrcExact.j1]
        rw [if_pos (decide_eq_true h20), if_pos (by omega), if_pos (by omega), ← hx, if_pos h3]
      · refine Ev.step (fun k => ?_) (next (decide ((x.f1.length : Int) > 1000)) ?_)
        · simp only [gimballaw22_CrcExact.j1]
          rw [if_pos (decide_eq_true h20), if_pos (by omega), if_pos (by omega), ← hx, if_neg h3]
        · by_cases h1 : (x.f1.length : Int) > 1000
          · exact .inl (decide_eq_true h1)
          · exact .inr ⟨by omega, by omega⟩
    · refine Ev.step (f := fun _ => some true) (fun k => ?_) (Ev.now _)
      simp only [gimballaw22_CrcExact.j1, gimballaw22_wakes.f]
      rw [if_neg (by simpa using h20)]
      rfl
theorem CrcExact : gimballaw22_CrcExact.Pure := by
  intro l ⟨hl, hw⟩
  exact (main_loop l (by unfold maxLen at hl; omega) hw l.length 0 (by omega)).rounds
end Go.Proofs.Ythmhfllpgnokiaa.Pure
