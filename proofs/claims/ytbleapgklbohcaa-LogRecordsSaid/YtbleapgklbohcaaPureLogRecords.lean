/-
  The pure law of LogRecords: a setting's record alone on an erased page is told, and it alone; a generation is what a head's word says.
  No conditions.
-/
import Derived.Test.YtbleapgklbohcaaSpecLogRecords
import Derived.Laws.BitsAllLaws
namespace Go.Proofs.Ytbleapgklbohcaa.Pure
open Go.RowKit Go.Proofs.Ytbleapgklbohcaa Go.Proofs.Ytbleapgklbohcaa.PLogRecords Go.Proofs.YtbleapgklbohcaaW.PrintWords Go.Proofs.YtbleapgklbohcaaW.PrintLast Go.Proofs.YtbleapgklbohcaaW.PrintMore
theorem w64 {x : Int} (h : -9223372036854775808 ≤ x) (h2 : x < 9223372036854775808) : wrap64 x = x := by
  unfold wrap64
  omega
theorem w64s (n : Nat) (h : n < 9223372036854775807) : wrap64 ((n : Int) + 1) = ((n + 1 : Nat) : Int) := by
  rw [w64 (by omega) (by omega)]
  omega
theorem eqBytes_loop (l m : List Int) (hl : l.length < 9223372036854775807) (he : l = m) (d : Nat) : ∀ j : Nat, j + d = l.length → Ev (fun k => gimbalref0_EqBytes.l0 k l m (j : Int)) true := by
  induction d with
  | zero =>
    intro j hj
    refine Ev.step (f := fun _ => some true) (fun k => ?_) (Ev.now _)
    simp only [gimbalref0_EqBytes.l0]
    rw [if_neg (by omega)]
  | succ d ih =>
    intro j hj
    have hm : m.length = l.length := by rw [he]
    refine Ev.step (fun k => ?_) (ih (j + 1) (by omega))
    simp only [gimbalref0_EqBytes.l0]
    rw [if_pos (by omega), if_pos (by omega), if_pos (by omega), if_pos (by rw [he]), w64s j (by omega)]
theorem eqBytes_same (l m : List Int) (hl : l.length < 9223372036854775807) (he : l = m) : Ev (fun k => gimbalref0_EqBytes.f k l m) true := by
  refine Ev.congr (f := fun k => gimbalref0_EqBytes.l0 k l m 0) (fun k => ?_) (eqBytes_loop l m hl he l.length 0 (by omega))
  simp only [gimbalref0_EqBytes.f]
  rw [if_pos (by rw [he])]
theorem and16 (x : Int) (h0 : 0 ≤ x) (h1 : x < 4294967296) : Go.bits .and .u32 x 65535 = x % 65536 := by
  rw [u32_and x 65535 h0 h1 (by decide) (by decide)]
  have e : x.toNat &&& (65535 : Int).toNat = x.toNat % 65536 := by
    have := Nat.and_two_pow_sub_one_eq_mod x.toNat 16
    exact this
  rw [e]
  omega
theorem and8 (x : Int) (h0 : 0 ≤ x) (h1 : x < 4294967296) : Go.bits .and .u32 x 255 = x % 256 := by
  rw [u32_and x 255 h0 h1 (by decide) (by decide)]
  have e : x.toNat &&& (255 : Int).toNat = x.toNat % 256 := by
    have := Nat.and_two_pow_sub_one_eq_mod x.toNat 8
    exact this
  rw [e]
  omega
theorem andHigh (x : Int) (h0 : 0 ≤ x) (h1 : x < 4294967296) : Go.bits .and .u32 x 4278190080 = x / 16777216 * 16777216 := by
  rw [u32_and x 4278190080 h0 h1 (by decide) (by decide)]
  have e : x.toNat &&& (4278190080 : Int).toNat = x.toNat / 16777216 * 16777216 := by
    have hx : x.toNat < 2 ^ 32 := by omega
    generalize x.toNat = n at hx
    have e1 : (4278190080 : Int).toNat = (2 ^ 8 - 1) * 2 ^ 24 := by decide
    rw [e1, show (16777216 : Nat) = 2 ^ 24 from rfl]
    apply Nat.eq_of_testBit_eq
    intro i
    rw [Nat.testBit_and, Nat.testBit_mul_two_pow, Nat.testBit_mul_two_pow, Nat.testBit_div_two_pow, Nat.testBit_two_pow_sub_one]
    by_cases h : 24 ≤ i
    · rw [show i - 24 + 24 = i by omega]
      by_cases h2 : i - 24 < 8
      · simp [h, h2]
      · have : n.testBit i = false := Nat.testBit_lt_two_pow (Nat.lt_of_lt_of_le hx (Nat.pow_le_pow_right (by decide) (by omega)))
        simp [this]
    · simp [h]
  rw [e]
  omega
theorem notHigh (x : Int) (h0 : 0 ≤ x) (h1 : x < 4294967296) : Go.bits .andNot .u32 x 4278190080 = x % 16777216 := by
  rw [u32_andNot x 4278190080 h0 h1 (by decide) (by decide)]
  have e : x.toNat &&& (4294967295 - (4278190080 : Int).toNat) = x.toNat % 16777216 := by
    have := Nat.and_two_pow_sub_one_eq_mod x.toNat 24
    exact this
  rw [e]
  omega
theorem orByte (x b : Int) (h0 : 0 ≤ x) (h1 : x < 16777216) (h2 : 0 ≤ b) (h3 : b < 256) : Go.bits .or .u32 ((x * 256) % 4294967296) b = x * 256 + b := by
  have e : (x * 256) % 4294967296 = x * 256 := by omega
  rw [e, u32_or (x * 256) b (by omega) (by omega) h2 (by omega), nat_join 8 _ _ (by omega) (by omega)]
  omega
theorem rdI_some (l : List Int) (i : Nat) (h : i < l.length) : rd l (i : Int) = l[i] := by
  unfold rd
  rw [Int.toNat_natCast, List.getD_eq_getElem?_getD, List.getElem?_eq_getElem h]
  rfl
theorem stepOf_range (s y : Int) : 0 ≤ stepOf s y ∧ stepOf s y < 65536 := by
  unfold stepOf Go.bits
  rw [IntKind.wrap_u16]
  omega
theorem sumW_range (l : List Int) (k : Nat) : 0 ≤ sumW l k ∧ sumW l k < 65536 := by
  cases k with
  | zero =>
    show (0 : Int) ≤ 65535 ∧ (65535 : Int) < 65536
    decide
  | succ k =>
    show 0 ≤ inn4 (sumW l k) (rd l k) 0 ∧ inn4 (sumW l k) (rd l k) 0 < 65536
    exact stepOf_range _ _
/-- A byte of a row, or what fills up. -/
def bD (v : List Int) (j : Nat) : Int := if j < v.length then rd v (j : Int) else 255
theorem bD_range {v : List Int} (hv : ∀ y ∈ v, 0 ≤ y ∧ y < 256) (j : Nat) : 0 ≤ bD v j ∧ bD v j < 256 := by
  unfold bD
  split
  · next h =>
    rw [rdI_some v j h]
    exact hv _ (List.getElem_mem h)
  · omega
def wordD (v : List Int) (q : Nat) : Int := ((bD v (4 * q) * 256 + bD v (4 * q + 1)) * 256 + bD v (4 * q + 2)) * 256 + bD v (4 * q + 3)
def headD (key : Int) (n : Nat) : Int := 1375731712 + key * 256 + n
def bodyD (key : Int) (v : List Int) (q : Nat) : List Int := headD key v.length :: (List.range q).map (wordD v)
def endD (B : List Int) : Int := (1124073472 + sumW B B.length % 4294967296) % 4294967296
def packD (key : Int) (v : List Int) : List Int := bodyD key v ((v.length + 3) / 4) ++ [endD (bodyD key v ((v.length + 3) / 4))]
theorem bodyD_len (key : Int) (v : List Int) (q : Nat) : (bodyD key v q).length = q + 1 := by
  unfold bodyD
  rw [List.length_cons, List.length_map, List.length_range]
theorem packD_len (key : Int) (v : List Int) : (packD key v).length = (v.length + 3) / 4 + 2 := by
  unfold packD
  rw [List.length_append, bodyD_len, List.length_singleton]
theorem pack_one (v : List Int) (hv : ∀ y ∈ v, 0 ≤ y ∧ y < 256) (x4 : List Int) (i j : Nat) (hi : i < 100) (hj : j < i + 4) (_hn : v.length ≤ 24) (w key : Int) (w0 : 0 ≤ w) (w1 : w < 16777216) (k : Nat) :
    log_Pack.l1 (k + 1) x4 (i : Int) w (j : Int) key v = log_Pack.l1 k x4 (i : Int) (w * 256 + bD v j) ((j + 1 : Nat) : Int) key v := by
  have hb := bD_range hv j
  have hw : wrap64 ((i : Int) + 4) = (i : Int) + 4 := w64 (by omega) (by omega)
  have hw2 : wrap64 ((j : Int) + 1) = ((j + 1 : Nat) : Int) := w64s j (by omega)
  simp only [log_Pack.l1]
  rw [hw, if_pos (by omega), hw2]
  by_cases h : j < v.length
  · have e : bD v j = rd v (j : Int) := by unfold bD; rw [if_pos h]
    rw [if_pos (by omega), if_pos (by omega)]
    rw [e] at hb ⊢
    have e2 : (rd v (j : Int)) % 4294967296 = rd v (j : Int) := by omega
    rw [e2, orByte w _ w0 w1 hb.1 hb.2]
  · have e : bD v j = 255 := by unfold bD; rw [if_neg h]
    rw [if_neg (by omega), orByte w 255 w0 w1 (by decide) (by decide), e]
theorem pack_loop (v : List Int) (hv : ∀ y ∈ v, 0 ≤ y ∧ y < 256) (hn : v.length ≤ 24) (key : Int) (d : Nat) : ∀ q : Nat, q + d = (v.length + 3) / 4 →
    Ev (fun k => log_Pack.l0 k (bodyD key v q) ((4 * q : Nat) : Int) key v) (packD key v, 0) := by
  induction d with
  | zero =>
    intro q hq
    have e : q = (v.length + 3) / 4 := by omega
    refine Ev.step (f := fun _ => some (packD key v, 0)) (fun k => ?_) (Ev.now _)
    simp only [log_Pack.l0]
    rw [if_neg (by omega)]
    simp only [crc_Words.f, Option.bind_some]
    rw [if_pos (by rw [bodyD_len]; omega), e]
    rfl
  | succ d ih =>
    intro q hq
    have hnext := ih (q + 1) (by omega)
    have b0 := bD_range hv (4 * q)
    have b1 := bD_range hv (4 * q + 1)
    have b2 := bD_range hv (4 * q + 1 + 1)
    have b3 := bD_range hv (4 * q + 1 + 1 + 1)
    have hbody : bodyD key v (q + 1) = bodyD key v q ++ [wordD v q] := by
      unfold bodyD
      rw [List.range_succ, List.map_append]
      rfl
    refine Ev.step (f := fun k => log_Pack.l1 k (bodyD key v q) ((4 * q : Nat) : Int) 0 ((4 * q : Nat) : Int) key v) (fun k => ?_) ?_
    · simp only [log_Pack.l0]
      rw [if_pos (by omega)]
    refine Ev.step (fun k => pack_one v hv _ (4 * q) (4 * q) (by omega) (by omega) hn 0 key (by omega) (by omega) k) ?_
    refine Ev.step (fun k => pack_one v hv _ (4 * q) (4 * q + 1) (by omega) (by omega) hn _ key (by omega) (by omega) k) ?_
    refine Ev.step (fun k => pack_one v hv _ (4 * q) (4 * q + 1 + 1) (by omega) (by omega) hn _ key (by omega) (by omega) k) ?_
    refine Ev.step (fun k => pack_one v hv _ (4 * q) (4 * q + 1 + 1 + 1) (by omega) (by omega) hn _ key (by omega) (by omega) k) ?_
    refine Ev.step (fun k => ?_) hnext
    have hw : wrap64 (((4 * q : Nat) : Int) + 4) = ((4 * (q + 1) : Nat) : Int) := by rw [w64 (by omega) (by omega)]; omega
    simp only [log_Pack.l1]
    rw [if_neg (by rw [hw]; omega), if_pos (by rw [bodyD_len]; omega), hw, hbody]
    unfold wordD
    rw [Int.zero_mul, Int.zero_add]
theorem pack_ev (v : List Int) (hv : ∀ y ∈ v, 0 ≤ y ∧ y < 256) (hn : v.length ≤ 24) (key : Int) (k0 : 0 ≤ key) (k1 : key < 16) : Ev (fun k => log_Pack.f k key v) (packD key v, 0) := by
  have h := pack_loop v hv hn key ((v.length + 3) / 4) 0 (by omega)
  refine Ev.congr (fun k => ?_) h
  unfold log_Pack.f log_Good.f
  rw [if_pos (by omega), if_pos k1, Option.bind_some, decide_eq_true (show (v.length : Int) ≤ 24 by omega), if_pos rfl]
  have e : ((1375731712 + ((key % 4294967296) * 256 % 4294967296)) % 4294967296 + ((v.length : Int) % 4294967296)) % 4294967296 = headD key v.length := by
    unfold headD
    omega
  rw [e]
  rfl
theorem byte_word (v : List Int) (hv : ∀ y ∈ v, 0 ≤ y ∧ y < 256) (k : Nat) (hk : k < v.length) : wordD v (k / 4) / 2 ^ (24 - 8 * (k % 4)) % 256 = rd v (k : Int) := by
  have b0 := bD_range hv (4 * (k / 4))
  have b1 := bD_range hv (4 * (k / 4) + 1)
  have b2 := bD_range hv (4 * (k / 4) + 2)
  have b3 := bD_range hv (4 * (k / 4) + 3)
  have hb : bD v k = rd v (k : Int) := by unfold bD; rw [if_pos hk]
  rw [← hb]
  obtain ⟨q, hq⟩ : ∃ q, q = k / 4 := ⟨_, rfl⟩
  rw [← hq] at b0 b1 b2 b3 ⊢
  unfold wordD
  have h4 : k % 4 = 0 ∨ k % 4 = 1 ∨ k % 4 = 2 ∨ k % 4 = 3 := by omega
  rcases h4 with h | h | h | h
  · have e : k = 4 * q := by omega
    rw [h, e]
    simp only [Nat.mul_zero, Nat.sub_zero]
    generalize bD v (4 * q) = x0 at *
    generalize bD v (4 * q + 1) = x1 at *
    generalize bD v (4 * q + 2) = x2 at *
    generalize bD v (4 * q + 3) = x3 at *
    omega
  · have e : k = 4 * q + 1 := by omega
    rw [h, e]
    generalize bD v (4 * q) = x0 at *
    generalize bD v (4 * q + 1) = x1 at *
    generalize bD v (4 * q + 2) = x2 at *
    generalize bD v (4 * q + 3) = x3 at *
    omega
  · have e : k = 4 * q + 2 := by omega
    rw [h, e]
    generalize bD v (4 * q) = x0 at *
    generalize bD v (4 * q + 1) = x1 at *
    generalize bD v (4 * q + 2) = x2 at *
    generalize bD v (4 * q + 3) = x3 at *
    omega
  · have e : k = 4 * q + 3 := by omega
    rw [h, e]
    generalize bD v (4 * q) = x0 at *
    generalize bD v (4 * q + 1) = x1 at *
    generalize bD v (4 * q + 2) = x2 at *
    generalize bD v (4 * q + 3) = x3 at *
    omega
theorem packD_at (key : Int) (v : List Int) (q : Nat) (hq : q < (v.length + 3) / 4) : rd (packD key v) ((1 + q : Nat) : Int) = wordD v q := by
  rw [rdI_some _ _ (by rw [packD_len]; omega)]
  unfold packD bodyD
  rw [List.getElem_append_left (by rw [List.length_cons, List.length_map, List.length_range]; omega), List.getElem_cons]
  simp
theorem vals_pack (key : Int) (v : List Int) (hv : ∀ y ∈ v, 0 ≤ y ∧ y < 256) : Lg.vals (packD key v) v.length = v := by
  apply List.ext_getElem
  · exact Lg.vals_len _ _
  · intro k h1 h2
    have e : (Lg.vals (packD key v) v.length)[k]'h1 = Lg.byteAt (packD key v) k := by simp [Lg.vals]
    rw [e]
    unfold Lg.byteAt
    rw [packD_at key v (k / 4) (by omega), byte_word v hv k h2, rdI_some v k h2]
/-- A page that is erased but for a record at its beginning. -/
theorem scan_one (key : Int) (v T : List Int) (hv : ∀ y ∈ v, 0 ≤ y ∧ y < 256) (hn : v.length ≤ 24) (k0 : 0 ≤ key) (k1 : key < 16) (e0 : Int) (hT : T.head? = some 4294967295) (k : Nat) (es : List (Int × List Int)) :
    Lg.scanF (e0 :: (packD key v ++ T)) (k + 2) es 1 = (es ++ [(key, v)], 1 + ((packD key v).length : Int)) := by
  have hlen := packD_len key v
  obtain ⟨page, hp⟩ : ∃ page, page = e0 :: (packD key v ++ T) := ⟨_, rfl⟩
  have hpl : (packD key v).length + 1 < page.length := by
    cases T with
    | nil => simp at hT
    | cons a b => rw [hp]; simp
  have r1 : rd page 1 = headD key v.length := by
    have := rdI_some page 1 (by omega)
    rw [show ((1 : Nat) : Int) = 1 from rfl] at this
    rw [this]
    simp [hp, packD, bodyD]
  have hh : headD key v.length = 1375731712 + key * 256 + v.length := rfl
  have hne : rd page 1 ≠ 4294967295 := by rw [r1, hh]; omega
  have hk : Lg.keyOf (rd page 1) = key := by
    unfold Lg.keyOf
    rw [and16 _ (by rw [r1, hh]; omega) (by rw [r1, hh]; omega), r1, hh]
    omega
  have hN : Lg.nOf (rd page 1) = v.length := by
    unfold Lg.nOf
    rw [and8 _ (by rw [r1, hh]; omega) (by rw [r1, hh]; omega), r1, hh]
    omega
  have hM : Lg.mOf (rd page 1) = ((packD key v).length : Int) := by
    unfold Lg.mOf
    rw [hN, hlen]
    omega
  have hrec : Lg.isRec (rd page 1) = true := by
    unfold Lg.isRec
    rw [decide_eq_true_iff]
    refine ⟨?_, by rw [hk]; exact k1, by rw [hN]; omega⟩
    rw [andHigh _ (by rw [r1, hh]; omega) (by rw [r1, hh]; omega), r1, hh]
    omega
  have hR : Lg.recOf page 1 = packD key v := by
    unfold Lg.recOf
    rw [hM, show (1 + ((packD key v).length : Int)).toNat = (packD key v).length + 1 by omega, show (1 : Int).toNat = 1 from rfl, hp, List.take_succ_cons, List.drop_succ_cons, List.drop_zero, List.take_left']
    rfl
  have hright : Lg.rightAt page 1 = true := by
    unfold Lg.rightAt Lg.sumOk
    rw [hR, hN]
    have hl : (((v.length : Int) + 3) / 4 + 1) = (((v.length + 3) / 4 + 1 : Nat) : Int) := by omega
    rw [hl, Int.toNat_natCast, rdI_some _ _ (by rw [hlen]; omega)]
    have ht : (packD key v).take ((v.length + 3) / 4 + 1) = bodyD key v ((v.length + 3) / 4) := by
      unfold packD
      rw [List.take_left']
      rw [bodyD_len]
    rw [ht]
    have hg : (packD key v)[(v.length + 3) / 4 + 1]'(by rw [hlen]; omega) = endD (bodyD key v ((v.length + 3) / 4)) := by
      unfold packD
      rw [List.getElem_append_right (by rw [bodyD_len]; exact Nat.le_refl _)]
      simp [bodyD_len]
    rw [hg]
    unfold endD
    exact beq_self_eq_true _
  have hent : Lg.entryAt page 1 = (key, v) := by
    unfold Lg.entryAt
    rw [hk, hN, hR, Int.toNat_natCast, vals_pack key v hv]
  rw [← hp, logYes page (k + 1) es 1 (by decide) hne hrec (by rw [hM, hlen]; omega), if_pos hright, hent, hM]
  refine logStop page (k + 1) _ _ (.inr ?_)
  have h2 := rdI_some page ((packD key v).length + 1) (by omega)
  rw [show (1 : Int) + ((packD key v).length : Int) = (((packD key v).length + 1 : Nat) : Int) by omega, h2]
  cases T with
  | nil => simp at hT
  | cons a b =>
    simp only [List.head?_cons, Option.some.injEq] at hT
    subst hT
    simp [hp]
abbrev AskT := S30
theorem wakes_now : gimballaw30_wakes.f = some true := by decide +kernel
theorem page_set (i : Nat) (h : i < 256) : (List.replicate i (4294967295 : Int) ++ List.replicate (256 - i) (0 : Int)).set i 4294967295 = List.replicate (i + 1) (4294967295 : Int) ++ List.replicate (256 - (i + 1)) (0 : Int) := by
  rw [List.set_append, if_neg (by rw [List.length_replicate]; omega), List.length_replicate, Nat.sub_self]
  obtain ⟨n, hn⟩ : ∃ n, 256 - i = n + 1 := ⟨255 - i, by omega⟩
  rw [hn, show 256 - (i + 1) = n by omega, List.replicate_succ, List.set_cons_zero, List.replicate_succ' (n := i), List.append_assoc]
  rfl
theorem page_copy (P : List Int) (h : P.length ≤ 8) : copyIn (List.replicate 256 (4294967295 : Int)) 1 P = 4294967295 :: (P ++ List.replicate (255 - P.length) (4294967295 : Int)) := by
  unfold copyIn
  rw [List.length_replicate, List.take_of_length_le (l := P) (by omega), List.drop_replicate, show 256 - (1 + min P.length (256 - 1)) = 255 - P.length by omega]
  rfl
theorem scan_page (key : Int) (v : List Int) (hv : ∀ y ∈ v, 0 ≤ y ∧ y < 256) (hn : v.length ≤ 24) (k0 : 0 ≤ key) (k1 : key < 16) :
    log_Scan.f (copyIn (List.replicate 256 (4294967295 : Int)) 1 (packD key v)) = some ([(⟨key, v⟩ : S25)], 1 + ((packD key v).length : Int), 0) := by
  have hl := packD_len key v
  unfold log_Scan.f
  rw [if_pos (by rw [copyIn_len _ _ _ (by rw [List.length_replicate]; omega), List.length_replicate]), page_copy _ (by omega)]
  rw [scan_one key v _ hv hn k0 k1 4294967295 (by
    obtain ⟨n, hn2⟩ : ∃ n, 255 - (packD key v).length = n + 1 := ⟨254 - (packD key v).length, by omega⟩
    rw [hn2]; rfl) 254 []]
  rfl
section
variable (x0 : List AskT) (x3 : Int) (hnext : Ev (fun k => gimballaw30_LogRecords.l0 k x0 (wrap64 (x3 + 1))) true) (key : Int) (v : List Int) (gen w : Int) (pg : List Int) (L : List S25) (n : Int)
include hnext
theorem j5_ev : Ev (fun k => gimballaw30_LogRecords.j5 k x0 x3 false key v gen w pg L n) true := by
  obtain ⟨g, hg⟩ : ∃ g, g = wrap64 (Int.tmod (IntKind.u64.wrap gen) (IntKind.u64.wrap 16777216)) := ⟨_, rfl⟩
  have hu : IntKind.u64.wrap (16777216 : Int) = 16777216 := by decide
  have hg1 : 0 ≤ g ∧ g < 16777216 := by
    have hw : 0 ≤ IntKind.u64.wrap gen := by rw [IntKind.wrap_u64]; omega
    rw [hg, hu, Int.tmod_eq_emod_of_nonneg hw, w64 (by omega) (by omega)]
    omega
  have hW : gimballaw0_Within.f gen 16777216 = some g := by
    unfold gimballaw0_Within.f
    rw [if_neg (by rw [hu]; decide), hg]
  have hH : log_Head.f g = some (1191182336 + g, 0) := by
    unfold log_Head.f
    rw [if_neg (by omega), if_neg (by omega)]
    congr 2
    omega
  have hG : log_Gen.f (1191182336 + g) = some (g, true) := by
    unfold log_Gen.f
    rw [andHigh _ (by omega) (by omega), if_pos (by omega), notHigh _ (by omega) (by omega), w64 (by omega) (by omega)]
    congr 2
    omega
  refine Ev.step (fun k => ?_) hnext
  simp only [gimballaw30_LogRecords.j5, gimballaw30_num.f, hW, hH, hG, Option.bind_some, if_true, Bool.false_eq_true, if_false]
theorem l1_ev (hv : ∀ y ∈ v, 0 ≤ y ∧ y < 256) (hn : v.length ≤ 24) (k0 : 0 ≤ key) (k1 : key < 16) (d : Nat) : ∀ i : Nat, i + d = 256 →
    Ev (fun k => gimballaw30_LogRecords.l1 k x0 x3 (packD key v) (List.replicate i (4294967295 : Int) ++ List.replicate (256 - i) (0 : Int)) (i : Int) key v gen w pg L n) true := by
  induction d with
  | zero =>
    intro i hi
    obtain rfl : i = 256 := by omega
    have hl := packD_len key v
    have hwl : wrap64 (1 + ((packD key v).length : Int)) = 1 + ((packD key v).length : Int) := w64 (by omega) (by omega)
    have e0 : (List.replicate 256 (4294967295 : Int) ++ List.replicate (256 - 256) (0 : Int)) = List.replicate 256 (4294967295 : Int) := by rw [Nat.sub_self, List.replicate_zero, List.append_nil]
    rw [e0]
    refine Ev.step (f := fun k => (gimbalref0_EqEntry.f k key v key v).bind fun t156 => (gimballaw30_LogRecords.j5 k x0 x3 (!t156) key v gen w pg L n)) (fun k => ?_) ?_
    · simp only [gimballaw30_LogRecords.l1]
      rw [if_neg (by rw [List.length_replicate]; decide), if_pos (by rw [List.length_replicate]; decide), scan_page key v hv hn k0 k1]
      simp only [Option.bind_some, gimballaw30_num.f, hwl, if_true]
      rfl
    · have he : Ev (fun k => gimbalref0_EqEntry.f k key v key v) true := by
        refine Ev.congr (f := fun k => (gimbalref0_EqBytes.f k v v).bind fun t => some t) (fun k => ?_) (Ev.bind (eqBytes_same v v (by omega) rfl) (Ev.now _))
        unfold gimbalref0_EqEntry.f
        rw [if_pos rfl]
      exact Ev.bind he (j5_ev x0 x3 hnext key v gen w pg L n)
  | succ d ih =>
    intro i hi
    have h := ih (i + 1) (by omega)
    rw [← page_set i (by omega)] at h
    refine Ev.step (fun k => ?_) h
    simp only [gimballaw30_LogRecords.l1]
    rw [if_pos (by rw [List.length_append, List.length_replicate, List.length_replicate]; omega), if_pos (by omega), Int.toNat_natCast, w64s i (by omega)]
theorem j3_ev (hv : ∀ y ∈ v, 0 ≤ y ∧ y < 256) (hn : v.length ≤ 24) (k0 : 0 ≤ key) (k1 : key < 16) :
    Ev (fun k => gimballaw30_LogRecords.j3 k x0 x3 (packD key v) false key v gen w pg L n) true := by
  have h := l1_ev x0 x3 hnext key v gen w pg L n hv hn k0 k1 256 0 (by omega)
  obtain ⟨Z, hZ⟩ : ∃ Z : List Int, Z = List.replicate 256 (0 : Int) := ⟨_, rfl⟩
  rw [List.replicate_zero, List.nil_append, Nat.sub_zero, ← hZ, Int.natCast_zero] at h
  refine Ev.step (fun k => ?_) h
  simp only [gimballaw30_LogRecords.j3]
  rw [if_neg (by simp), ← hZ, if_pos (show (256 : Nat) ≤ 70368744177664 from Nat.le_of_ble_eq_true rfl)]
theorem j2_ev (hv : ∀ y ∈ v, 0 ≤ y ∧ y < 256) (hn : v.length ≤ 24) (k0 : 0 ≤ key) (k1 : key < 16) :
    Ev (fun k => gimballaw30_LogRecords.j2 k x0 x3 false key v gen w pg L n) true := by
  have hl := packD_len key v
  have p1 : (0 : Int) < ((packD key v).length : Int) := by omega
  have p2 : (0 : Int) ≤ (((v.length + 3) / 4 + 1 : Nat) : Int) := Int.natCast_nonneg _
  have p3 : (((v.length + 3) / 4 + 1 : Nat) : Int) < ((packD key v).length : Int) := by omega
  have e1 : wrap64 (2 + (wrap64 (Int.tdiv (wrap64 ((v.length : Int) + 3)) 4))) = ((packD key v).length : Int) := by
    rw [w64 (x := (v.length : Int) + 3) (by omega) (by omega), Int.tdiv_eq_ediv_of_nonneg (by omega), w64 (x := ((v.length : Int) + 3) / 4) (by omega) (by omega), w64 (by omega) (by omega), hl]
    omega
  have e2 : rd (packD key v) 0 = ((1375731712 + ((wrap64 ((wrap64 (256 * key)) + (v.length : Int))) % 4294967296)) % 4294967296) := by
    clear e1
    rw [w64 (x := 256 * key) (by omega) (by omega), w64 (by omega) (by omega)]
    have e0 : rd (packD key v) 0 = headD key v.length := by
      have := rdI_some (packD key v) 0 (by rw [hl]; omega)
      rw [show ((0 : Nat) : Int) = 0 from rfl] at this
      rw [this]
      simp [packD, bodyD]
    rw [e0]
    unfold headD
    omega
  have e3 : wrap64 (((packD key v).length : Int) - 1) = (((v.length + 3) / 4 + 1 : Nat) : Int) := by clear e1 e2; rw [w64 (by omega) (by omega), hl]; omega
  have hg : rd (packD key v) (((v.length + 3) / 4 + 1 : Nat) : Int) = endD (bodyD key v ((v.length + 3) / 4)) := by
    clear e1 e2 e3
    rw [rdI_some _ _ (by rw [hl]; omega)]
    unfold packD
    rw [List.getElem_append_right (by rw [bodyD_len]; exact Nat.le_refl _)]
    simp [bodyD_len]
  have hs : 0 ≤ sumW (bodyD key v ((v.length + 3) / 4)) (bodyD key v ((v.length + 3) / 4)).length ∧ sumW (bodyD key v ((v.length + 3) / 4)) (bodyD key v ((v.length + 3) / 4)).length < 65536 := sumW_range _ _
  have e4 : ((endD (bodyD key v ((v.length + 3) / 4)) / 16777216) != 67) = false := by
    clear e1 e2 e3 hg
    unfold endD
    rw [bne_eq_false_iff_eq]
    omega
  obtain ⟨K1, h1⟩ := pack_ev v hv hn key k0 k1
  obtain ⟨K2, h2⟩ := j3_ev x0 x3 hnext key v gen w pg L n hv hn k0 k1
  obtain ⟨P, hP⟩ : ∃ P, P = packD key v := ⟨_, rfl⟩
  rw [← hP] at h1 h2 p1 p3 e1 e2 e3 hg
  clear hs hl hv
  have l1 : ∀ m, K1 ≤ m → log_Pack.f m key v = some (P, 0) := fun m hm => h1 m hm
  have l2 : ∀ m, K2 ≤ m → gimballaw30_LogRecords.j3 m x0 x3 P false key v gen w pg L n = some true := fun m hm => h2 m hm
  clear h1 h2 hP
  refine ⟨K1 + K2 + 1, fun k hk => ?_⟩
  obtain ⟨m, rfl⟩ : ∃ m, k = m + 1 := ⟨k - 1, by clear e1 e2 e3 e4 hg; omega⟩
  have q1 : K1 ≤ m := by clear e1 e2 e3 e4 hg; omega
  have q2 : K2 ≤ m := by clear e1 e2 e3 e4 hg; omega
  simp only [gimballaw30_LogRecords.j2]
  rw [if_neg (by simp), l1 m q1, Option.bind_some]
  rw [show gimballaw30_num.f (P, (0 : Int)).2 = some 0 from rfl, Option.bind_some]
  rw [if_pos rfl, if_pos e1.symm, if_pos p1, if_pos e2, e3, if_pos p2, if_pos p3, hg, e4]
  exact l2 m q2
end
theorem main_loop (l : List AskT) (hw : ∀ y ∈ l, wf30 y) (_hl : l.length ≤ 9223372036854775807) (d : Nat) : ∀ i : Nat, i + d = l.length → Ev (fun k => gimballaw30_LogRecords.l0 k l (i : Int)) true := by
  induction d with
  | zero =>
    intro i hi
    refine Ev.step (f := fun k => gimballaw30_LogRecords.j1 k l i false) (fun k => ?_) (Ev.step (f := fun _ => some true) (fun k => ?_) (Ev.now _))
    · simp only [gimballaw30_LogRecords.l0]
      rw [if_neg (by omega)]
    · simp only [gimballaw30_LogRecords.j1]
      rw [if_neg (by simp), wakes_now]
      rfl
  | succ d ih =>
    intro i hi
    have hlt : i < l.length := by omega
    refine Ev.step (f := fun k => gimballaw30_LogRecords.j1 k l i (decide ((i : Int) < 10))) (fun k => ?_) ?_
    · simp only [gimballaw30_LogRecords.l0]
      rw [if_pos (by omega)]
    by_cases h20 : (i : Int) < 10
    · obtain ⟨p, hp⟩ : ∃ p, p = rd_T30 l i := ⟨_, rfl⟩
      have hpm : p ∈ l := by
        rw [hp]
        unfold rd_T30
        rw [Int.toNat_natCast, List.getD_eq_getElem?_getD, List.getElem?_eq_getElem hlt]
        exact List.getElem_mem hlt
      have hwp := (hw p hpm).1
      have hv : ∀ y ∈ p.f0.f1, 0 ≤ y ∧ y < 256 := fun y hy => by
        have := hwp.2.2 y hy
        simp [Lit.wf, IntKind.min, IntKind.max, IntKind.bits, IntKind.signed] at this
        omega
      have hnext := ih (i + 1) (by omega)
      rw [← w64s i (by omega)] at hnext
      rw [decide_eq_true h20]
      have skip : Ev (fun k => gimballaw30_LogRecords.j2 k l i true p.f0.f0 p.f0.f1 p.f1 p.f2 p.f3 p.f4 p.f5) true := by
        refine Ev.step (fun k => ?_) hnext
        simp only [gimballaw30_LogRecords.j2]
        rw [if_pos trivial]
      have hM : gimbalref29_MayEntry.f p.f0.f0 p.f0.f1 = some (decide (0 ≤ p.f0.f0 ∧ p.f0.f0 < 16 ∧ (p.f0.f1.length : Int) ≤ 24)) := by
        unfold gimbalref29_MayEntry.f
        by_cases h1 : p.f0.f0 ≥ 0
        · by_cases h2 : p.f0.f0 < 16
          · rw [if_pos h1, if_pos h2]
            congr 1
            rw [decide_eq_decide]
            omega
          · rw [if_pos h1, if_neg h2, decide_eq_false (by omega)]
        · rw [if_neg h1, decide_eq_false (by omega)]
      obtain ⟨b, hb⟩ : ∃ b, gimballaw30_heavy.f p.f0.f0 p.f0.f1 p.f1 p.f2 p.f3 p.f4 p.f5 = some b := by
        unfold gimballaw30_heavy.f
        split
        · exact ⟨_, rfl⟩
        · split
          · exact ⟨_, rfl⟩
          · exact ⟨_, rfl⟩
      by_cases hbt : b = true
      · refine Ev.step (fun k => ?_) skip
        simp only [gimballaw30_LogRecords.j1]
        rw [if_pos trivial, if_pos (by omega), if_pos (by omega), ← hp, hb, Option.bind_some, if_pos hbt]
      · by_cases hm : 0 ≤ p.f0.f0 ∧ p.f0.f0 < 16 ∧ (p.f0.f1.length : Int) ≤ 24
        · refine Ev.step (fun k => ?_) (j2_ev l i hnext p.f0.f0 p.f0.f1 p.f1 p.f2 p.f3 p.f4 p.f5 hv (by omega) hm.1 hm.2.1)
          simp only [gimballaw30_LogRecords.j1]
          rw [if_pos trivial, if_pos (by omega), if_pos (by omega), ← hp, hb, Option.bind_some, if_neg hbt, hM, Option.bind_some, decide_eq_true hm]
          rfl
        · refine Ev.step (fun k => ?_) skip
          simp only [gimballaw30_LogRecords.j1]
          rw [if_pos trivial, if_pos (by omega), if_pos (by omega), ← hp, hb, Option.bind_some, if_neg hbt, hM, Option.bind_some, decide_eq_false hm]
          rfl
    · refine Ev.step (f := fun _ => some true) (fun k => ?_) (Ev.now _)
      simp only [gimballaw30_LogRecords.j1]
      rw [if_neg (by simpa using h20), wakes_now]
      rfl
theorem LogRecords : gimballaw30_LogRecords.Pure := by
  intro l ⟨hl, hw⟩
  exact (main_loop l hw (by unfold maxLen at hl; omega) l.length 0 (by omega)).rounds
end Go.Proofs.Ytbleapgklbohcaa.Pure
