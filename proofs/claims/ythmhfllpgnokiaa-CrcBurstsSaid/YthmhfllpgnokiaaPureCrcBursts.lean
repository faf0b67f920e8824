/-
  The pure law of CrcBursts: what is turned within sixteen neighbouring bits always changes the sum.
  No conditions.
-/
import Derived.Test.YthmhfllpgnokiaaSpecCrcBursts
import Derived.Test.YthmhfllpgnokiaaCrcM
import Derived.Test.YthmhfllpgnokiaaOpens
namespace Go.Proofs.Ythmhfllpgnokiaa.Pure
open Go.RowKit Go.Proofs.Ythmhfllpgnokiaa.Op Go.Proofs.Ythmhfllpgnokiaa.PCrcBursts Go.Proofs.YthmhfllpgnokiaaW.PrintWords Go.Proofs.YthmhfllpgnokiaaW.PrintLast Go.Proofs.YthmhfllpgnokiaaW.PrintMore
theorem w64 {x : Int} (h : -9223372036854775808 ≤ x) (h2 : x < 9223372036854775808) : wrap64 x = x := by
  unfold wrap64
  omega
theorem YB_xor (a b : Int) (ha : 0 ≤ a ∧ a < 256) (hb : 0 ≤ b ∧ b < 256) : YB (Go.bits .xor .u8 a b) = YB a ^^^ YB b := by
  rw [u8_xor _ _ ha.1 ha.2 hb.1 hb.2]
  unfold YB
  apply BitVec.eq_of_toNat_eq
  have hx : a.toNat ^^^ b.toNat < 256 := Nat.xor_lt_two_pow (n := 8) (by omega) (by omega)
  rw [BitVec.toNat_xor, BitVec.toNat_ofNat, BitVec.toNat_ofNat, BitVec.toNat_ofNat, Int.toNat_natCast, Nat.mod_eq_of_lt (by omega), Nat.mod_eq_of_lt (by omega), Nat.mod_eq_of_lt (by omega)]
  rw [(xor_high (a.toNat * 256) b.toNat 0 (by omega) (by omega)).1, Nat.mul_div_cancel _ (by omega), Nat.mul_mod_left, Nat.add_zero]
theorem rd_set_self (l : List Int) (j : Nat) (v : Int) (h : j < l.length) : rd (l.set j v) j = v := by
  unfold rd
  rw [Int.toNat_natCast, List.getD_eq_getElem?_getD, List.getElem?_set_self h]
  rfl
theorem rd_set_ne (l : List Int) (j m : Nat) (v : Int) (h : j ≠ m) : rd (l.set j v) m = rd l m := by
  unfold rd
  rw [Int.toNat_natCast, List.getD_eq_getElem?_getD, List.getD_eq_getElem?_getD, List.getElem?_set_ne h]
theorem bytes_set {l : List Int} (h : bytes l) (j : Nat) (v : Int) (hv : 0 ≤ v ∧ v < 256) : bytes (l.set j v) := by
  intro y hy
  rcases List.mem_or_eq_of_mem_set hy with h' | h'
  · exact h y h'
  · subst h'; exact hv
/-- A byte that is turned turns the sum by as many steps as there are bytes from it on. -/
theorem SB_set_low (l : List Int) (i : Nat) (v : Int) (k : Nat) (hk : k ≤ i) : SB (l.set i v) k = SB l k := by
  induction k with
  | zero => rfl
  | succ k ih => simp only [SB]; rw [ih (by omega), rd_set_ne l i k v (by omega)]
theorem SB_set (l : List Int) (i : Nat) (m : Int) (hi : i < l.length) (hb : bytes l) (hm : 0 ≤ m ∧ m < 256) (d : Nat) :
    SB (l.set i (Go.bits .xor .u8 (rd l i) m)) (i + 1 + d) = SB l (i + 1 + d) ^^^ FI (8 * (1 + d)) (YB m) := by
  induction d with
  | zero =>
    simp only [Nat.add_zero, SB, Nat.mul_one]
    rw [SB_set_low l i _ i (Nat.le_refl _), rd_set_self l i _ hi, YB_xor _ _ (bytes_rd hb i) hm, ← FI_xor, ← BitVec.xor_assoc]
  | succ d ih =>
    rw [show i + 1 + (d + 1) = (i + 1 + d) + 1 by omega]
    show FI 8 (SB (l.set i (Go.bits .xor .u8 (rd l i) m)) (i + 1 + d) ^^^ YB (rd (l.set i (Go.bits .xor .u8 (rd l i) m)) ((i + 1 + d : Nat) : Int))) = FI 8 (SB l (i + 1 + d) ^^^ YB (rd l ((i + 1 + d : Nat) : Int))) ^^^ _
    rw [rd_set_ne l i _ _ (by omega), ih, show 8 * (1 + (d + 1)) = 8 + 8 * (1 + d) by omega, FI_add, ← FI_xor]
    congr 1
    generalize SB l (i + 1 + d) = a
    generalize FI (8 * (1 + d)) (YB m) = b
    generalize YB (rd l ((i + 1 + d : Nat) : Int)) = c
    rw [BitVec.xor_assoc, BitVec.xor_assoc, BitVec.xor_comm b c]
theorem bit_high : ∀ j : Fin 8, FI 8 (YB (128 / 2 ^ j.1)) = FI (8 - j.1) 0x8000#16 := by decide +kernel
theorem bit_back : ∀ k : Fin 16, 0x8000#16 = FI k.1 (BitVec.ofNat 16 (2 ^ (15 - k.1))) := by decide +kernel
theorem SB_bit (l : List Int) (i j k n : Nat) (hp : n + k = 8 * i + j) (hj : j < 8) (hk : k < 16) (hi : i < l.length) (hb : bytes l) (m : Int) (hm : m = 128 / 2 ^ j) :
    SB (l.set i (Go.bits .xor .u8 (rd l i) m)) l.length = SB l l.length ^^^ FI (8 * l.length - n) (BitVec.ofNat 16 (2 ^ (15 - k))) := by
  have hm2 : 0 ≤ m ∧ m < 256 := by
    subst hm
    have : ∀ j : Fin 8, 0 ≤ (128 : Int) / 2 ^ j.1 ∧ (128 : Int) / 2 ^ j.1 < 256 := by decide
    exact this ⟨j, hj⟩
  have h := SB_set l i m hi hb hm2 (l.length - i - 1)
  rw [show i + 1 + (l.length - i - 1) = l.length by omega] at h
  rw [h]
  congr 1
  rw [show 8 * (1 + (l.length - i - 1)) = 8 * (l.length - i - 1) + 8 by omega, FI_add, hm, bit_high ⟨j, hj⟩, ← FI_add, bit_back ⟨k, hk⟩, ← FI_add]
  congr 1
  show 8 * (l.length - i - 1) + (8 - j) + k = _
  omega
/-- The highest k bits of a turn. -/
def topN (t k : Nat) : Nat := t / 2 ^ (16 - k) * 2 ^ (16 - k)
theorem topN_step (t k : Nat) (ht : t < 65536) (hk : k < 16) : BitVec.ofNat 16 (topN t (k + 1)) = if t / 2 ^ (15 - k) % 2 = 1 then BitVec.ofNat 16 (topN t k) ^^^ BitVec.ofNat 16 (2 ^ (15 - k)) else BitVec.ofNat 16 (topN t k) := by
  have e : 2 ^ (16 - k) = 2 ^ (15 - k) * 2 := by rw [show 16 - k = (15 - k) + 1 by omega, Nat.pow_succ]
  have e3 : (16 - (k + 1)) = 15 - k := by omega
  have hd : t / 2 ^ (16 - k) = t / 2 ^ (15 - k) / 2 := by rw [e, Nat.div_div_eq_div_mul]
  unfold topN
  rw [e3, hd, e]
  have hle : t / 2 ^ (15 - k) * 2 ^ (15 - k) ≤ t := Nat.div_mul_le_self _ _
  have hpl : 2 ^ (15 - k) ≤ 2 ^ 15 := Nat.pow_le_pow_right (by omega) (by omega)
  generalize hq : t / 2 ^ (15 - k) = q at *
  generalize hP : 2 ^ (15 - k) = p at *
  have hq2 : q = 2 * (q / 2) + q % 2 := by omega
  have hmul : q / 2 * (p * 2) = (2 * (q / 2)) * p := by rw [Nat.mul_comm p 2, ← Nat.mul_assoc, Nat.mul_comm (q / 2) 2]
  rw [hmul]
  by_cases h1 : q % 2 = 1
  · rw [if_pos h1]
    apply BitVec.eq_of_toNat_eq
    have hle2 : 2 * (q / 2) * p ≤ q * p := Nat.mul_le_mul_right _ (by omega)
    rw [BitVec.toNat_xor, BitVec.toNat_ofNat, BitVec.toNat_ofNat, BitVec.toNat_ofNat, Nat.mod_eq_of_lt (by omega), Nat.mod_eq_of_lt (by omega), Nat.mod_eq_of_lt (by omega)]
    apply Nat.eq_of_testBit_eq
    intro i
    rw [Nat.testBit_xor]
    subst hP
    rw [Nat.testBit_mul_two_pow, Nat.testBit_mul_two_pow]
    have hone : (2 ^ (15 - k)).testBit i = (decide (15 - k ≤ i) && Nat.testBit 1 (i - (15 - k))) := by
      have := Nat.testBit_mul_two_pow 1 i (15 - k)
      rwa [Nat.one_mul] at this
    rw [hone]
    generalize i - (15 - k) = s
    cases decide (15 - k ≤ i) with
    | false => rfl
    | true =>
      simp only [Bool.true_and]
      cases s with
      | zero => simp [Nat.testBit_zero]; omega
      | succ s =>
        rw [Nat.testBit_succ, Nat.testBit_succ, Nat.testBit_succ]
        rw [show q / 2 = 2 * (q / 2) / 2 by omega, show (1 : Nat) / 2 = 0 from rfl, Nat.zero_testBit]
        simp
  · rw [if_neg h1]
    rw [show 2 * (q / 2) = q by omega]
theorem burst_lt (n k a c : Nat) (hn : n < 8 * (a - 2)) (hk : k < 16) (hc : c = a) : (n + k) / 8 < c := by omega
theorem burst_15 (k : Nat) (hk : k < 16) : wrap64 (15 - (k : Int)) = 15 - (k : Int) := w64 (by omega) (by omega)
theorem burst_15p (k : Nat) (hk : k < 16) : 0 ≤ wrap64 (15 - (k : Int)) := by rw [burst_15 k hk]; omega
theorem burst_k1 (k : Nat) (hk : k < 16) : wrap64 ((k : Int) + 1) = ((k + 1 : Nat) : Int) := by rw [w64 (by omega) (by omega)]; omega
theorem burst_idx (n k : Nat) (h : n + k < 100000) : wrap64 (Int.tdiv (wrap64 ((n : Int) + k)) 8) = (((n + k) / 8 : Nat) : Int) := by
  rw [w64 (x := (n : Int) + k) (by omega) (by omega), Int.tdiv_eq_ediv_of_nonneg (by omega)]
  rw [w64 (by omega) (by omega)]
  omega
theorem burst_rem (n k : Nat) (h : n + k < 100000) : Int.tmod (wrap64 ((n : Int) + k)) 8 = (((n + k) % 8 : Nat) : Int) := by
  rw [w64 (x := (n : Int) + k) (by omega) (by omega), Int.tmod_eq_emod_of_nonneg (by omega)]
  omega
theorem turn_bit (t k : Nat) (ht : t < 65536) (hk : k < 16) : Go.bits .and .u16 (shr .u16 (t : Int) (15 - (k : Int))) 1 = ((t / 2 ^ (15 - k) % 2 : Nat) : Int) := by
  have hq : t / 2 ^ (15 - k) < 65536 := Nat.lt_of_le_of_lt (Nat.div_le_self _ _) ht
  have hs : shr .u16 (t : Int) (15 - (k : Int)) = ((t / 2 ^ (15 - k) : Nat) : Int) := by
    unfold shr
    rw [show (15 - (k : Int)).toNat = 15 - k by omega, show min (15 - k) (IntKind.u16.bits) = 15 - k from Nat.min_eq_left (by show 15 - k ≤ 16; omega)]
    rw [Int.natCast_ediv, Int.natCast_pow]
    rfl
  rw [hs]
  generalize t / 2 ^ (15 - k) = q at *
  rw [show (1 : Int) = ((1 : Nat) : Int) from rfl, u16_and_nat _ _ hq (by omega), nat_mask1]
theorem shift_bit (j : Nat) (hj : j < 8) : shr .u8 128 (j : Int) = 128 / 2 ^ j := by
  unfold shr
  rw [Int.toNat_natCast, show min j (IntKind.u8.bits) = j from Nat.min_eq_left (by show j ≤ 8; omega)]
theorem burst_loop (l : List S27) (i : Int) (x : S27) (hb : bytes x.f0) (hl : x.f0.length ≤ 3000) (n : Nat) (hn : n < 8 * (x.f0.length - 2)) (t : Nat) (ht : t < 65536) (ht0 : t ≠ 0) (hx3 : x.f3 = t)
    (next : Ev (fun k => gimballaw22_CrcBursts.l0 k l (wrap64 (i + 1))) true) (d : Nat) :
    ∀ (k : Nat) (c : List Int), k + d = 16 → c.length = x.f0.length → bytes c → SB c x.f0.length = SB x.f0 x.f0.length ^^^ FI (8 * x.f0.length - n) (BitVec.ofNat 16 (topN t k)) →
      Ev (fun r => gimballaw22_CrcBursts.l1 r l i (sumB x.f0 x.f0.length) c n k x.f0 x.f1 x.f2 x.f3) true := by
  induction d with
  | zero =>
    intro k c hk hc bc h
    obtain rfl : k = 16 := by omega
    refine Ev.step (fun r => ?_) next
    simp only [gimballaw22_CrcBursts.l1, crc_Sum.f, Option.bind_some]
    rw [if_neg (by omega), if_neg]
    intro e
    rw [hc, sumB_bv c bc, sumB_bv x.f0 hb] at e
    have e' : SB c x.f0.length = SB x.f0 x.f0.length := BitVec.eq_of_toNat_eq (by omega)
    rw [h] at e'
    have hz : FI (8 * x.f0.length - n) (BitVec.ofNat 16 (topN t 16)) = 0#16 := by
      have := congrArg (fun z => SB x.f0 x.f0.length ^^^ z) e'
      simp only [← BitVec.xor_assoc, BitVec.xor_self, BitVec.zero_xor] at this
      exact this
    have hz2 := FI_inj _ _ hz
    unfold topN at hz2
    have := congrArg BitVec.toNat hz2
    rw [BitVec.toNat_ofNat] at this
    simp at this
    omega
  | succ d ih =>
    intro k c hk hc bc h
    have hk16 : k < 16 := by omega
    have a1 : k + 1 + d = 16 := by omega
    have a2 : (k : Int) < 16 := by omega
    have hlt : (n + k) / 8 < c.length := burst_lt n k _ _ hn hk16 hc
    have b1 : (0 : Int) ≤ (((n + k) / 8 : Nat) : Int) := Int.natCast_nonneg _
    have b2 : (((n + k) / 8 : Nat) : Int) < (c.length : Int) := Int.ofNat_lt.2 hlt
    have b4 : n + k = 8 * ((n + k) / 8) + (n + k) % 8 := (Nat.div_add_mod _ _).symm
    have b5 : (n + k) % 8 < 8 := Nat.mod_lt _ (by decide)
    have hnk : n + k < 100000 := by omega
    have a15 := burst_15 k hk16
    have a3 := burst_15p k hk16
    have a4 := burst_k1 k hk16
    have hidx := burst_idx n k hnk
    have hrem := burst_rem n k hnk
    have b3 : 0 ≤ Int.tmod (wrap64 ((n : Int) + k)) 8 := by rw [hrem]; exact Int.natCast_nonneg _
    have hstep := topN_step t k ht hk16
    have hand := turn_bit t k ht hk16
    rw [← hx3, ← a15] at hand
    by_cases h1 : t / 2 ^ (15 - k) % 2 = 1
    · rw [if_pos h1] at hstep
      rw [h1, Int.natCast_one] at hand
      have hsh := shift_bit ((n + k) % 8) b5
      rw [← hrem] at hsh
      have hbit := SB_bit c ((n + k) / 8) ((n + k) % 8) k n b4 b5 hk16 hlt bc _ hsh
      rw [hc] at hbit
      obtain ⟨m, hm⟩ : ∃ m, m = shr .u8 128 (Int.tmod (wrap64 ((n : Int) + k)) 8) := ⟨_, rfl⟩
      rw [← hm] at hbit
      have hlen : (c.set ((n + k) / 8) (Go.bits .xor .u8 (rd c (((n + k) / 8 : Nat) : Int)) m)).length = x.f0.length := by rw [List.length_set]; exact hc
      have hnew : SB (c.set ((n + k) / 8) (Go.bits .xor .u8 (rd c (((n + k) / 8 : Nat) : Int)) m)) x.f0.length = SB x.f0 x.f0.length ^^^ FI (8 * x.f0.length - n) (BitVec.ofNat 16 (topN t (k + 1))) := by
        rw [hbit, h, hstep, FI_xor, BitVec.xor_assoc]
      have hrun := ih (k + 1) _ a1 hlen (bytes_set bc ((n + k) / 8) _ ⟨bits8_ge _ _ _, bits8_lt _ _ _⟩) hnew
      clear hnew hbit hsh hstep h ih
      refine Ev.step (fun r => ?_) hrun
      simp only [gimballaw22_CrcBursts.l1]
      rw [if_pos a2, if_pos a3, if_pos hand, hidx, if_pos b1, if_pos b2, if_pos b3, Int.toNat_natCast, a4, ← hm]
    · rw [if_neg h1] at hstep
      have hand0 : ¬ Go.bits .and .u16 (shr .u16 x.f3 (wrap64 (15 - (k : Int)))) 1 = 1 := by
        rw [hand]
        clear hand hidx hrem a15 a3 a4 b3
        omega
      have hrun := ih (k + 1) c a1 hc bc (by rw [h, hstep])
      clear hstep h ih hand
      refine Ev.step (fun r => ?_) hrun
      simp only [gimballaw22_CrcBursts.l1]
      rw [if_pos a2, if_pos a3, if_neg hand0, a4]
theorem within (a : Int) (n : Nat) (h0 : 0 < n) (h1 : n < 1000000) : ∃ r : Nat, r < n ∧ gimballaw0_Within.f a n = some (r : Int) := by
  have hwn : IntKind.u64.wrap (n : Int) = n := by
    unfold IntKind.wrap
    simp [IntKind.bits, IntKind.signed]
    omega
  have hwa : 0 ≤ IntKind.u64.wrap a := by
    unfold IntKind.wrap
    simp [IntKind.bits, IntKind.signed]
    omega
  refine ⟨(IntKind.u64.wrap a % n).toNat, ?_, ?_⟩
  · have := Int.emod_lt_of_pos (IntKind.u64.wrap a) (show (0 : Int) < n by omega)
    omega
  · unfold gimballaw0_Within.f
    rw [hwn, if_neg (by omega), Int.tmod_eq_emod_of_nonneg hwa]
    have h1' := Int.emod_lt_of_pos (IntKind.u64.wrap a) (show (0 : Int) < n by omega)
    have h2' := Int.emod_nonneg (IntKind.u64.wrap a) (show (n : Int) ≠ 0 by omega)
    rw [w64 (by omega) (by omega), Int.toNat_of_nonneg h2']
theorem main_loop (l : List S27) (hw : ∀ y ∈ l, wf27 y) (d : Nat) : ∀ i : Nat, i + d = l.length → Ev (fun k => gimballaw22_CrcBursts.l0 k l (i : Int)) true := by
  induction d with
  | zero =>
    intro i hi
    refine Ev.step (f := fun k => gimballaw22_CrcBursts.j1 k l i false) (fun k => ?_) (Ev.step (f := fun _ => some true) (fun k => ?_) (Ev.now _))
    · simp only [gimballaw22_CrcBursts.l0]
      rw [if_neg (by omega)]
    · simp only [gimballaw22_CrcBursts.j1, gimballaw22_wakes.f]
      rfl
  | succ d ih =>
    intro i hi
    refine Ev.step (f := fun k => gimballaw22_CrcBursts.j1 k l i (decide ((i : Int) < 20))) (fun k => ?_) ?_
    · simp only [gimballaw22_CrcBursts.l0]
      rw [if_pos (by omega)]
    by_cases h20 : (i : Int) < 20
    · have hm : rd_T27 l i ∈ l := by
        unfold rd_T27
        rw [Int.toNat_natCast, List.getD_eq_getElem?_getD, List.getElem?_eq_getElem (by omega)]
        exact List.getElem_mem _
      obtain ⟨⟨_, hb⟩, _, _, h3⟩ := hw _ hm
      obtain ⟨x, hx⟩ : ∃ x, x = rd_T27 l i := ⟨_, rfl⟩
      rw [← hx] at hb h3
      have hb' : bytes x.f0 := fun y hy => wf_u8 (hb y hy)
      have h3' := wf_u16 h3
      have hnext : Ev (fun k => gimballaw22_CrcBursts.l0 k l (wrap64 ((i : Int) + 1))) true := by rw [w64 (by omega) (by omega)]; exact ih (i + 1) (by omega)
      have skip : Ev (fun k => gimballaw22_CrcBursts.j2 k l i true x.f0 x.f1 x.f2 x.f3) true := by
        refine Ev.step (fun k => ?_) hnext
        simp only [gimballaw22_CrcBursts.j2, if_true]
      by_cases hA : (x.f0.length : Int) < 3
      · refine Ev.step (fun k => ?_) skip
        simp only [gimballaw22_CrcBursts.j1]
        rw [if_pos (decide_eq_true h20), if_pos (by omega), if_pos (by omega), ← hx, if_pos hA]
      by_cases hB : (x.f0.length : Int) > 3000
      · refine Ev.step (fun k => ?_) skip
        simp only [gimballaw22_CrcBursts.j1]
        rw [if_pos (decide_eq_true h20), if_pos (by omega), if_pos (by omega), ← hx, if_neg hA, if_pos hB]
      refine Ev.step (f := fun k => gimballaw22_CrcBursts.j2 k l i (x.f3 == 0) x.f0 x.f1 x.f2 x.f3) (fun k => ?_) ?_
      · simp only [gimballaw22_CrcBursts.j1]
        rw [if_pos (decide_eq_true h20), if_pos (by omega), if_pos (by omega), ← hx, if_neg hA, if_neg hB]
      by_cases hz : x.f3 = 0
      · rw [beq_iff_eq.mpr hz]
        exact skip
      rw [beq_eq_false_iff_ne.mpr hz]
      obtain ⟨n, hn, hwn⟩ := within x.f2 (8 * (x.f0.length - 2)) (by omega) (by omega)
      obtain ⟨t, ht⟩ := Int.eq_ofNat_of_zero_le h3'.1
      have hrun := burst_loop l i x hb' (by omega) n hn t (by omega) (by omega) ht hnext 16 0 x.f0 (by omega) rfl hb' (by
        unfold topN
        rw [Nat.div_eq_of_lt (show t < 2 ^ (16 - 0) by omega), Nat.zero_mul, FI_zero, BitVec.xor_zero])
      refine Ev.step (fun k => ?_) hrun
      simp only [gimballaw22_CrcBursts.j2, crc_Sum.f, Option.bind_some, List.nil_append, List.length_nil]
      rw [if_neg (by simp), if_pos (by omega), w64 (x := (x.f0.length : Int) - 2) (by omega) (by omega), w64 (x := 8 * ((x.f0.length : Int) - 2)) (by omega) (by omega)]
      rw [show 8 * ((x.f0.length : Int) - 2) = ((8 * (x.f0.length - 2) : Nat) : Int) by omega, hwn]
      rfl
    · refine Ev.step (f := fun _ => some true) (fun k => ?_) (Ev.now _)
      simp only [gimballaw22_CrcBursts.j1, gimballaw22_wakes.f]
      rw [if_neg (by simpa using h20)]
      rfl
theorem CrcBursts : gimballaw22_CrcBursts.Pure := by
  intro l ⟨_, hw⟩
  exact (main_loop l hw l.length 0 (by omega)).rounds
end Go.Proofs.Ythmhfllpgnokiaa.Pure
