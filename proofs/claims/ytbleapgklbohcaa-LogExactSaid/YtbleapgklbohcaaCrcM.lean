/-
  Plain laws of the sum: one byte more is eight steps of a linear map that loses nothing.
  No conditions.
-/
import Derived.Test.YtbleapgklbohcaaCrcB
import Derived.Laws.BitsAllLaws
namespace Go.Proofs.Ytbleapgklbohcaa
open Go.RowKit Go.Proofs.YtbleapgklbohcaaW.PrintWords Go.Proofs.YtbleapgklbohcaaW.PrintLast Go.Proofs.YtbleapgklbohcaaW.PrintMore
/-- One step: a bit is shifted out. -/
def FB (x : BitVec 16) : BitVec 16 := if x.msb then (x <<< 1) ^^^ 0x1021#16 else x <<< 1
def FI : Nat → BitVec 16 → BitVec 16
  | 0, x => x
  | n + 1, x => FB (FI n x)
theorem shl1_xor (x y : BitVec 16) : (x ^^^ y) <<< 1 = (x <<< 1) ^^^ (y <<< 1) := by
  apply BitVec.eq_of_getLsbD_eq
  intro i hi
  simp only [BitVec.getLsbD_shiftLeft, BitVec.getLsbD_xor]
  by_cases h : i < 1 <;> simp [h, hi]
theorem FB_xor (x y : BitVec 16) : FB (x ^^^ y) = FB x ^^^ FB y := by
  unfold FB
  rw [BitVec.msb_xor, shl1_xor]
  generalize x <<< 1 = a
  generalize y <<< 1 = b
  cases x.msb <;> cases y.msb
  · simp
  · simp [BitVec.xor_assoc]
  · simp only [Bool.bne_false, if_true, Bool.false_eq_true, if_false]
    rw [BitVec.xor_assoc, BitVec.xor_assoc, BitVec.xor_comm b]
  · simp only [bne_self_eq_false, Bool.false_eq_true, if_false, if_true]
    rw [show (a ^^^ 4129#16) ^^^ (b ^^^ 4129#16) = a ^^^ b ^^^ (4129#16 ^^^ 4129#16) by rw [BitVec.xor_assoc, BitVec.xor_assoc, BitVec.xor_comm b, ← BitVec.xor_assoc 4129#16, BitVec.xor_comm _ b]]
    simp
theorem FI_xor (n : Nat) (x y : BitVec 16) : FI n (x ^^^ y) = FI n x ^^^ FI n y := by
  induction n with
  | zero => rfl
  | succ n ih => simp only [FI, ih, FB_xor]
theorem FI_add (m n : Nat) (x : BitVec 16) : FI (m + n) x = FI m (FI n x) := by
  induction m with
  | zero => simp [FI]
  | succ m ih => rw [Nat.succ_add]; simp only [FI, ih]
theorem FB_zero : FB 0#16 = 0#16 := by decide
theorem FI_zero (n : Nat) : FI n 0#16 = 0#16 := by
  induction n with
  | zero => rfl
  | succ n ih => simp only [FI, ih, FB_zero]
theorem FB_inj (x : BitVec 16) (h : FB x = 0#16) : x = 0#16 := by
  unfold FB at h
  split at h
  · rename_i hm
    have h0 := congrArg (fun z => BitVec.getLsbD z 0) h
    simp at h0
  · rename_i hm
    apply BitVec.eq_of_getLsbD_eq
    intro i hi
    simp only [BitVec.getLsbD_zero]
    by_cases hi15 : i = 15
    · subst hi15
      rw [BitVec.msb_eq_getLsbD_last] at hm
      simpa using hm
    · have := congrArg (fun z => BitVec.getLsbD z (i + 1)) h
      simp only [BitVec.getLsbD_shiftLeft, BitVec.getLsbD_zero] at this
      have hlt : i + 1 < 16 := by omega
      simpa [hlt] using this
theorem FI_inj (n : Nat) (x : BitVec 16) (h : FI n x = 0#16) : x = 0#16 := by
  induction n with
  | zero => exact h
  | succ n ih => exact ih (FB_inj _ h)
theorem crcStep_bv (x : BitVec 16) : crcStep ((x.toNat : Nat) : Int) = (((FB x).toNat : Nat) : Int) := by
  have hx := x.isLt
  unfold crcStep FB
  rw [show (32768 : Int) = ((32768 : Nat) : Int) from rfl, u16_and_nat _ _ hx (by omega), nat_bit 15]
  rw [BitVec.msb_eq_decide]
  have hs : (x <<< 1).toNat = x.toNat * 2 % 65536 := by rw [BitVec.toNat_shiftLeft, Nat.shiftLeft_eq]
  have hw : IntKind.u16.wrap (((x.toNat : Nat) : Int) * 2) = (((x <<< 1).toNat : Nat) : Int) := by
    rw [IntKind.wrap_u16, hs]; omega
  by_cases h : x.toNat < 32768
  · rw [if_pos (by omega), if_neg (by simp; omega), hw]
  · rw [if_neg (by omega), if_pos (by simp; omega), hw]
    rw [show (4129 : Int) = ((4129 : Nat) : Int) from rfl, u16_xor_nat _ _ (BitVec.isLt _) (by omega)]
    rfl
theorem crcIt_bv (n : Nat) (x : BitVec 16) : crcIt n ((x.toNat : Nat) : Int) = (((FI n x).toNat : Nat) : Int) := by
  induction n with
  | zero => rfl
  | succ n ih => simp only [crcIt, FI, ih, crcStep_bv]
theorem FI8_low : ∀ k : Fin 256, FI 8 (BitVec.ofNat 16 k.1) = BitVec.ofNat 16 (k.1 * 256) := by decide +kernel
/-- A byte, as it enters the sum. -/
def YB (n : Int) : BitVec 16 := BitVec.ofNat 16 (n.toNat * 256)
theorem xor_high (s a b : Nat) (hs : s < 65536) (ha : a < 256) : (s ^^^ (a * 256)) = ((s / 256) ^^^ a) * 256 + s % 256 ∧ b = b := by
  refine ⟨?_, rfl⟩
  have h1 : s = (s / 256) * 256 + s % 256 := by omega
  have hx : s / 256 ^^^ a < 256 := Nat.xor_lt_two_pow (n := 8) (by omega) ha
  apply Nat.eq_of_testBit_eq
  intro i
  rw [Nat.testBit_xor, show a * 256 = a * 2 ^ 8 from rfl, Nat.testBit_mul_two_pow]
  rw [show ((s / 256) ^^^ a) * 256 + s % 256 = 2 ^ 8 * ((s / 256) ^^^ a) + s % 256 by omega]
  rw [Nat.testBit_two_pow_mul_add _ (show s % 256 < 2 ^ 8 by omega)]
  by_cases h : i < 8
  · simp only [h, if_true, show ¬ (8 ≤ i) by omega, decide_false, Bool.false_and, Bool.xor_false]
    rw [show s % 256 = s % 2 ^ 8 from rfl, Nat.testBit_mod_two_pow]
    simp [h]
  · simp only [h, if_false, show (8 ≤ i) by omega, decide_true, Bool.true_and]
    rw [Nat.testBit_xor, show s / 256 = s / 2 ^ 8 from rfl, Nat.testBit_div_two_pow, Nat.sub_add_cancel (by omega)]
theorem stepOf_bv (s : BitVec 16) (y : Int) (h0 : 0 ≤ y) (h1 : y < 256) : stepOf ((s.toNat : Nat) : Int) y = (((FI 8 (s ^^^ YB y)).toNat : Nat) : Int) := by
  have hs := s.isLt
  obtain ⟨n, rfl⟩ := Int.eq_ofNat_of_zero_le h0
  have hn : n < 256 := by omega
  unfold stepOf YB
  rw [Int.toNat_natCast]
  rw [show ((s.toNat : Nat) : Int) / 256 % 256 = ((s.toNat / 256 : Nat) : Int) by omega, u8_xor_nat _ _ (by omega) hn, Int.toNat_natCast]
  have hx : s.toNat / 256 ^^^ n < 256 := Nat.xor_lt_two_pow (n := 8) (by omega) hn
  generalize hk : s.toNat / 256 ^^^ n = k at *
  have e1 : (s ^^^ BitVec.ofNat 16 (n * 256)) = BitVec.ofNat 16 (k * 256) ^^^ BitVec.ofNat 16 (s.toNat % 256) := by
    apply BitVec.eq_of_toNat_eq
    rw [BitVec.toNat_xor, BitVec.toNat_xor, BitVec.toNat_ofNat, BitVec.toNat_ofNat, BitVec.toNat_ofNat, Nat.mod_eq_of_lt (show n * 256 < 2 ^ 16 by omega), Nat.mod_eq_of_lt (show k * 256 < 2 ^ 16 by omega), Nat.mod_eq_of_lt (show s.toNat % 256 < 2 ^ 16 by omega)]
    rw [(xor_high s.toNat n 0 hs hn).1, hk, Nat.xor_comm, (xor_high (s.toNat % 256) k 0 (by omega) hx).1]
    rw [show s.toNat % 256 / 256 = 0 by omega, Nat.zero_xor, Nat.mod_mod]
  rw [e1, FI_xor, FI8_low ⟨s.toNat % 256, by omega⟩]
  have e2 : rowAt k = (((FI 8 (BitVec.ofNat 16 (k * 256))).toNat : Nat) : Int) := by
    unfold rowAt
    rw [← crcIt_bv, BitVec.toNat_ofNat, Nat.mod_eq_of_lt (show k * 256 < 2 ^ 16 by omega)]
    rfl
  rw [e2, show IntKind.u16.wrap (((s.toNat : Nat) : Int) * 256) = ((s.toNat % 256 * 256 : Nat) : Int) by rw [IntKind.wrap_u16]; omega]
  rw [u16_xor_nat _ _ (by omega) (BitVec.isLt _), BitVec.toNat_xor, BitVec.toNat_ofNat, Nat.mod_eq_of_lt (show s.toNat % 256 * 256 < 2 ^ 16 by omega), Nat.xor_comm]
/-- The sum of the first k bytes, as sixteen bits. -/
def SB (l : List Int) : Nat → BitVec 16
  | 0 => 0xffff#16
  | k + 1 => FI 8 (SB l k ^^^ YB (rd l k))
def bytes (l : List Int) : Prop := ∀ y ∈ l, 0 ≤ y ∧ y < 256
theorem bytes_rd {l : List Int} (h : bytes l) (k : Nat) : 0 ≤ rd l k ∧ rd l k < 256 := by
  unfold rd
  rw [Int.toNat_natCast, List.getD_eq_getElem?_getD]
  by_cases hk : k < l.length
  · rw [List.getElem?_eq_getElem hk]; exact h _ (List.getElem_mem hk)
  · rw [List.getElem?_eq_none (by omega)]; simp
theorem sumB_bv (l : List Int) (h : bytes l) (k : Nat) : sumB l k = (((SB l k).toNat : Nat) : Int) := by
  induction k with
  | zero => rfl
  | succ k ih =>
    show stepOf (sumB l k) (rd l k) = _
    rw [ih, stepOf_bv _ _ (bytes_rd h k).1 (bytes_rd h k).2]
    rfl
end Go.Proofs.Ytbleapgklbohcaa
