/-
  The pure law of CrcLinear: the sums of two rows and of what they are unlike in are together that of noughts.
  No conditions.
-/
import Derived.Test.YthmhfllpgnokiaaSpecCrcLinear
import Derived.Test.YthmhfllpgnokiaaCrcM
import Derived.Test.YthmhfllpgnokiaaOpens
namespace Go.Proofs.Ythmhfllpgnokiaa.Pure
open Go.RowKit Go.Proofs.Ythmhfllpgnokiaa.Op Go.Proofs.Ythmhfllpgnokiaa.PCrcLinear Go.Proofs.YthmhfllpgnokiaaW.PrintWords Go.Proofs.YthmhfllpgnokiaaW.PrintLast Go.Proofs.YthmhfllpgnokiaaW.PrintMore
theorem w64 {x : Int} (h : -9223372036854775808 ≤ x) (h2 : x < 9223372036854775808) : wrap64 x = x := by
  unfold wrap64
  omega
theorem YB_xor (a b : Int) (ha : 0 ≤ a ∧ a < 256) (hb : 0 ≤ b ∧ b < 256) : YB (Go.bits .xor .u8 a b) = YB a ^^^ YB b := by
  rw [u8_xor _ _ ha.1 ha.2 hb.1 hb.2]
  unfold YB
  apply BitVec.eq_of_toNat_eq
  have hx : a.toNat ^^^ b.toNat < 256 := Nat.xor_lt_two_pow (n := 8) (by omega) (by omega)
  rw [BitVec.toNat_xor, BitVec.toNat_ofNat, BitVec.toNat_ofNat, BitVec.toNat_ofNat, Int.toNat_natCast, Nat.mod_eq_of_lt (by omega), Nat.mod_eq_of_lt (by omega), Nat.mod_eq_of_lt (by omega)]
  rw [(xor_high (a.toNat * 256) b.toNat 0 (by omega) (by omega)).1, Nat.mul_div_cancel _ (by omega), Nat.mul_mod_left, Nat.add_zero]
theorem xor3 (a b c d : BitVec 16) (h : a ^^^ b ^^^ c = d) (p q r s : BitVec 16) (h' : p ^^^ q ^^^ r = s) : (a ^^^ p) ^^^ (b ^^^ q) ^^^ (c ^^^ r) = d ^^^ s := by
  subst h; subst h'
  apply BitVec.eq_of_getLsbD_eq
  intro i _
  simp only [BitVec.getLsbD_xor]
  cases a.getLsbD i <;> cases b.getLsbD i <;> cases c.getLsbD i <;> cases p.getLsbD i <;> cases q.getLsbD i <;> cases r.getLsbD i <;> rfl
theorem SB_three (b c d z : List Int) (n : Nat) (h : ∀ k : Nat, k < n → YB (rd b k) ^^^ YB (rd c k) ^^^ YB (rd d k) = YB (rd z k)) (k : Nat) (hk : k ≤ n) : SB b k ^^^ SB c k ^^^ SB d k = SB z k := by
  induction k with
  | zero => show 0xffff#16 ^^^ 0xffff#16 ^^^ 0xffff#16 = 0xffff#16; decide
  | succ k ih =>
    have := xor3 _ _ _ _ (ih (by omega)) _ _ _ _ (h k (by omega))
    simp only [SB]
    rw [← this]
    generalize SB b k ^^^ YB (rd b k) = p
    generalize SB c k ^^^ YB (rd c k) = q
    generalize SB d k ^^^ YB (rd d k) = r
    rw [FI_xor, FI_xor]
theorem sums3 (b c d z : List Int) (hb : bytes b) (hc : bytes c) (hd : bytes d) (hz : bytes z) (n : Nat) (h : SB b n ^^^ SB c n ^^^ SB d n = SB z n) :
    Go.bits .xor .u16 (Go.bits .xor .u16 (sumB b n) (sumB c n)) (sumB d n) = sumB z n := by
  rw [sumB_bv b hb, sumB_bv c hc, sumB_bv d hd, sumB_bv z hz, u16_xor_nat _ _ (BitVec.isLt _) (BitVec.isLt _), ← BitVec.toNat_xor, u16_xor_nat _ _ (BitVec.isLt _) (BitVec.isLt _), ← BitVec.toNat_xor, h]
theorem rd_set_self (l : List Int) (j : Nat) (v : Int) (h : j < l.length) : rd (l.set j v) j = v := by
  unfold rd
  rw [Int.toNat_natCast, List.getD_eq_getElem?_getD, List.getElem?_set_self h]
  rfl
theorem rd_set_ne (l : List Int) (j m : Nat) (v : Int) (h : j ≠ m) : rd (l.set j v) m = rd l m := by
  unfold rd
  rw [Int.toNat_natCast, List.getD_eq_getElem?_getD, List.getD_eq_getElem?_getD, List.getElem?_set_ne h]
theorem bytes_set {l : List Int} (h : bytes l) (j : Nat) (v : Int) (hv : 0 ≤ v ∧ v < 256) : bytes (l.set j v) := by
  intro y hy
  rcases List.mem_or_eq_of_mem_set hy with h' | h'
  · exact h y h'
  · subst h'; exact hv
theorem bytes_rep (n : Nat) : bytes (List.replicate n 0) := by
  intro y hy
  rw [List.mem_replicate] at hy
  omega
theorem rd_rep (n k : Nat) : rd (List.replicate n 0) k = 0 := by
  unfold rd
  rw [List.getD_eq_getElem?_getD, List.getElem?_replicate]
  split <;> rfl
theorem YB_zero : YB 0 = 0#16 := rfl
theorem lin_loop (l : List S27) (i : Int) (x : List Int) (hb : bytes x) (hl : x.length ≤ 3000) (next : Ev (fun k => gimballaw22_CrcLinear.l0 k l (wrap64 (i + 1))) true) (d : Nat) :
    ∀ (j : Nat) (c e : List Int), j + d = x.length → c.length = x.length → e.length = x.length → bytes c → bytes e → (∀ m : Nat, m < j → YB (rd x m) ^^^ YB (rd c m) ^^^ YB (rd e m) = 0#16) →
      Ev (fun k => gimballaw22_CrcLinear.l1 k l i x c e (j : Int)) true := by
  induction d with
  | zero =>
    intro j c e hj hc he bc be h
    obtain rfl : j = x.length := by omega
    refine Ev.step (fun k => ?_) next
    simp only [gimballaw22_CrcLinear.l1, crc_Sum.f, Option.bind_some]
    rw [if_neg (by omega), if_pos (by omega), if_pos (by omega), List.length_replicate]
    rw [if_pos]
    rw [hc, he, Int.toNat_natCast]
    exact sums3 x c e _ hb bc be (bytes_rep _) x.length (SB_three x c e _ x.length (fun k hk => by rw [h k hk, rd_rep]; rfl) x.length (Nat.le_refl _))
  | succ d ih =>
    intro j c e hj hc he bc be h
    have hx := bytes_rd hb j
    have hv : 0 ≤ (wrap64 ((wrap64 ((j : Int) * 37)) + i)) % 256 ∧ (wrap64 ((wrap64 ((j : Int) * 37)) + i)) % 256 < 256 := by omega
    generalize hvv : (wrap64 ((wrap64 ((j : Int) * 37)) + i)) % 256 = v at hv
    have hc1 : rd (c.set j v) j = v := rd_set_self c j v (by omega)
    have hu : 0 ≤ Go.bits .xor .u8 (rd x j) v ∧ Go.bits .xor .u8 (rd x j) v < 256 := ⟨bits8_ge _ _ _, bits8_lt _ _ _⟩
    refine Ev.step (fun k => ?_) (ih (j + 1) (c.set j v) (e.set j (Go.bits .xor .u8 (rd x j) v)) (by omega) (by simpa using hc) (by simpa using he) (bytes_set bc _ _ hv) (bytes_set be _ _ hu) ?_)
    · simp only [gimballaw22_CrcLinear.l1, Option.bind_some]
      rw [if_pos (by omega), if_pos (by omega), if_pos (by omega), if_pos (by omega), hvv, Int.toNat_natCast, hc1, w64 (by omega) (by omega)]
      rfl
    · intro m hm
      by_cases e1 : m = j
      · subst e1
        rw [hc1, rd_set_self e m _ (by omega), YB_xor _ _ hx hv]
        generalize YB (rd x m) = p
        generalize YB v = q
        rw [BitVec.xor_self]
      · rw [rd_set_ne c j m _ (Ne.symm e1), rd_set_ne e j m _ (Ne.symm e1)]
        exact h m (by omega)
theorem main_loop (l : List S27) (hw : ∀ y ∈ l, wf27 y) (d : Nat) : ∀ i : Nat, i + d = l.length → Ev (fun k => gimballaw22_CrcLinear.l0 k l (i : Int)) true := by
  induction d with
  | zero =>
    intro i hi
    refine Ev.step (f := fun k => gimballaw22_CrcLinear.j1 k l i false) (fun k => ?_) (Ev.step (f := fun _ => some true) (fun k => ?_) (Ev.now _))
    · simp only [gimballaw22_CrcLinear.l0]
      rw [if_neg (by omega)]
    · simp only [gimballaw22_CrcLinear.j1, gimballaw22_wakes.f]
      rfl
  | succ d ih =>
    intro i hi
    refine Ev.step (f := fun k => gimballaw22_CrcLinear.j1 k l i (decide ((i : Int) < 20))) (fun k => ?_) ?_
    · simp only [gimballaw22_CrcLinear.l0]
      rw [if_pos (by omega)]
    by_cases h20 : (i : Int) < 20
    · have hm : rd_T27 l i ∈ l := by
        unfold rd_T27
        rw [Int.toNat_natCast, List.getD_eq_getElem?_getD, List.getElem?_eq_getElem (by omega)]
        exact List.getElem_mem _
      obtain ⟨⟨_, hb⟩, _, _, _⟩ := hw _ hm
      obtain ⟨x, hx⟩ : ∃ x, x = rd_T27 l i := ⟨_, rfl⟩
      rw [← hx] at hb
      by_cases h1 : (x.f0.length : Int) > 3000
      · refine Ev.step (f := fun _ => some true) (fun k => ?_) (Ev.now _)
        simp only [gimballaw22_CrcLinear.j1]
        rw [if_pos (decide_eq_true h20), if_pos (by omega), if_pos (by omega), ← hx, if_pos h1]
      · refine Ev.step (fun k => ?_) (lin_loop l i x.f0 (fun y hy => wf_u8 (hb y hy)) (by omega) (by rw [w64 (by omega) (by omega)]; exact ih (i + 1) (by omega)) x.f0.length 0 (List.replicate x.f0.length 0) (List.replicate x.f0.length 0) (by omega) (by simp) (by simp) (bytes_rep _) (bytes_rep _) (fun m hm => by omega))
        simp only [gimballaw22_CrcLinear.j1]
        rw [if_pos (decide_eq_true h20), if_pos (by omega), if_pos (by omega), ← hx, if_neg h1, if_pos (by omega), if_pos (by omega), Int.toNat_natCast]
        rfl
    · refine Ev.step (f := fun _ => some true) (fun k => ?_) (Ev.now _)
      simp only [gimballaw22_CrcLinear.j1, gimballaw22_wakes.f]
      rw [if_neg (by simpa using h20)]
      rfl
theorem CrcLinear : gimballaw22_CrcLinear.Pure := by
  intro l ⟨_, hw⟩
  exact (main_loop l hw l.length 0 (by omega)).rounds
end Go.Proofs.Ythmhfllpgnokiaa.Pure
