/-
  The pure law of LogRows: records one behind the other are told in order; the last one cut is not told, all ahead of it are.
  No conditions.
-/
import Derived.Test.YtbleapgklbohcaaSpecLogRows
import Derived.Laws.BitsAllLaws
namespace Go.Proofs.Ytbleapgklbohcaa.Pure
open Go.RowKit Go.Proofs.Ytbleapgklbohcaa Go.Proofs.Ytbleapgklbohcaa.PLogRows Go.Proofs.YtbleapgklbohcaaW.PrintWords Go.Proofs.YtbleapgklbohcaaW.PrintLast Go.Proofs.YtbleapgklbohcaaW.PrintMore
theorem w64 {x : Int} (h : -9223372036854775808 ≤ x) (h2 : x < 9223372036854775808) : wrap64 x = x := by
  unfold wrap64
  omega
theorem w64s (n : Nat) (h : n < 9223372036854775807) : wrap64 ((n : Int) + 1) = ((n + 1 : Nat) : Int) := by
  rw [w64 (by omega) (by omega)]
  omega
theorem eqBytes_loop (l m : List Int) (hl : l.length < 9223372036854775807) (he : l = m) (d : Nat) : ∀ j : Nat, j + d = l.length → Ev (fun k => gimbalref0_EqBytes.l0 k l m (j : Int)) true := by
  induction d with
  | zero =>
    intro j hj
    refine Ev.step (f := fun _ => some true) (fun k => ?_) (Ev.now _)
    simp only [gimbalref0_EqBytes.l0]
    rw [if_neg (by omega)]
  | succ d ih =>
    intro j hj
    have hm : m.length = l.length := by rw [he]
    refine Ev.step (fun k => ?_) (ih (j + 1) (by omega))
    simp only [gimbalref0_EqBytes.l0]
    rw [if_pos (by omega), if_pos (by omega), if_pos (by omega), if_pos (by rw [he]), w64s j (by omega)]
theorem eqBytes_same (l m : List Int) (hl : l.length < 9223372036854775807) (he : l = m) : Ev (fun k => gimbalref0_EqBytes.f k l m) true := by
  refine Ev.congr (f := fun k => gimbalref0_EqBytes.l0 k l m 0) (fun k => ?_) (eqBytes_loop l m hl he l.length 0 (by omega))
  simp only [gimbalref0_EqBytes.f]
  rw [if_pos (by rw [he])]
theorem and16 (x : Int) (h0 : 0 ≤ x) (h1 : x < 4294967296) : Go.bits .and .u32 x 65535 = x % 65536 := by
  rw [u32_and x 65535 h0 h1 (by decide) (by decide)]
  have e : x.toNat &&& (65535 : Int).toNat = x.toNat % 65536 := by
    have := Nat.and_two_pow_sub_one_eq_mod x.toNat 16
    exact this
  rw [e]
  omega
theorem and8 (x : Int) (h0 : 0 ≤ x) (h1 : x < 4294967296) : Go.bits .and .u32 x 255 = x % 256 := by
  rw [u32_and x 255 h0 h1 (by decide) (by decide)]
  have e : x.toNat &&& (255 : Int).toNat = x.toNat % 256 := by
    have := Nat.and_two_pow_sub_one_eq_mod x.toNat 8
    exact this
  rw [e]
  omega
theorem andHigh (x : Int) (h0 : 0 ≤ x) (h1 : x < 4294967296) : Go.bits .and .u32 x 4278190080 = x / 16777216 * 16777216 := by
  rw [u32_and x 4278190080 h0 h1 (by decide) (by decide)]
  have e : x.toNat &&& (4278190080 : Int).toNat = x.toNat / 16777216 * 16777216 := by
    have hx : x.toNat < 2 ^ 32 := by omega
    generalize x.toNat = n at hx
    have e1 : (4278190080 : Int).toNat = (2 ^ 8 - 1) * 2 ^ 24 := by decide
    rw [e1, show (16777216 : Nat) = 2 ^ 24 from rfl]
    apply Nat.eq_of_testBit_eq
    intro i
    rw [Nat.testBit_and, Nat.testBit_mul_two_pow, Nat.testBit_mul_two_pow, Nat.testBit_div_two_pow, Nat.testBit_two_pow_sub_one]
    by_cases h : 24 ≤ i
    · rw [show i - 24 + 24 = i by omega]
      by_cases h2 : i - 24 < 8
      · simp [h, h2]
      · have : n.testBit i = false := Nat.testBit_lt_two_pow (Nat.lt_of_lt_of_le hx (Nat.pow_le_pow_right (by decide) (by omega)))
        simp [this]
    · simp [h]
  rw [e]
  omega
theorem notHigh (x : Int) (h0 : 0 ≤ x) (h1 : x < 4294967296) : Go.bits .andNot .u32 x 4278190080 = x % 16777216 := by
  rw [u32_andNot x 4278190080 h0 h1 (by decide) (by decide)]
  have e : x.toNat &&& (4294967295 - (4278190080 : Int).toNat) = x.toNat % 16777216 := by
    have := Nat.and_two_pow_sub_one_eq_mod x.toNat 24
    exact this
  rw [e]
  omega
theorem orByte (x b : Int) (h0 : 0 ≤ x) (h1 : x < 16777216) (h2 : 0 ≤ b) (h3 : b < 256) : Go.bits .or .u32 ((x * 256) % 4294967296) b = x * 256 + b := by
  have e : (x * 256) % 4294967296 = x * 256 := by omega
  rw [e, u32_or (x * 256) b (by omega) (by omega) h2 (by omega), nat_join 8 _ _ (by omega) (by omega)]
  omega
theorem rdI_some (l : List Int) (i : Nat) (h : i < l.length) : rd l (i : Int) = l[i] := by
  unfold rd
  rw [Int.toNat_natCast, List.getD_eq_getElem?_getD, List.getElem?_eq_getElem h]
  rfl
theorem stepOf_range (s y : Int) : 0 ≤ stepOf s y ∧ stepOf s y < 65536 := by
  unfold stepOf Go.bits
  rw [IntKind.wrap_u16]
  omega
theorem sumW_range (l : List Int) (k : Nat) : 0 ≤ sumW l k ∧ sumW l k < 65536 := by
  cases k with
  | zero =>
    show (0 : Int) ≤ 65535 ∧ (65535 : Int) < 65536
    decide
  | succ k =>
    show 0 ≤ inn4 (sumW l k) (rd l k) 0 ∧ inn4 (sumW l k) (rd l k) 0 < 65536
    exact stepOf_range _ _
/-- A byte of a row, or what fills up. -/
def bD (v : List Int) (j : Nat) : Int := if j < v.length then rd v (j : Int) else 255
theorem bD_range {v : List Int} (hv : ∀ y ∈ v, 0 ≤ y ∧ y < 256) (j : Nat) : 0 ≤ bD v j ∧ bD v j < 256 := by
  unfold bD
  split
  · next h =>
    rw [rdI_some v j h]
    exact hv _ (List.getElem_mem h)
  · omega
def wordD (v : List Int) (q : Nat) : Int := ((bD v (4 * q) * 256 + bD v (4 * q + 1)) * 256 + bD v (4 * q + 2)) * 256 + bD v (4 * q + 3)
def headD (key : Int) (n : Nat) : Int := 1375731712 + key * 256 + n
def bodyD (key : Int) (v : List Int) (q : Nat) : List Int := headD key v.length :: (List.range q).map (wordD v)
def endD (B : List Int) : Int := (1124073472 + sumW B B.length % 4294967296) % 4294967296
def packD (key : Int) (v : List Int) : List Int := bodyD key v ((v.length + 3) / 4) ++ [endD (bodyD key v ((v.length + 3) / 4))]
theorem bodyD_len (key : Int) (v : List Int) (q : Nat) : (bodyD key v q).length = q + 1 := by
  unfold bodyD
  rw [List.length_cons, List.length_map, List.length_range]
theorem packD_len (key : Int) (v : List Int) : (packD key v).length = (v.length + 3) / 4 + 2 := by
  unfold packD
  rw [List.length_append, bodyD_len, List.length_singleton]
theorem pack_one (v : List Int) (hv : ∀ y ∈ v, 0 ≤ y ∧ y < 256) (x4 : List Int) (i j : Nat) (hi : i < 100) (hj : j < i + 4) (_hn : v.length ≤ 24) (w key : Int) (w0 : 0 ≤ w) (w1 : w < 16777216) (k : Nat) :
    log_Pack.l1 (k + 1) x4 (i : Int) w (j : Int) key v = log_Pack.l1 k x4 (i : Int) (w * 256 + bD v j) ((j + 1 : Nat) : Int) key v := by
  have hb := bD_range hv j
  have hw : wrap64 ((i : Int) + 4) = (i : Int) + 4 := w64 (by omega) (by omega)
  have hw2 : wrap64 ((j : Int) + 1) = ((j + 1 : Nat) : Int) := w64s j (by omega)
  simp only [log_Pack.l1]
  rw [hw, if_pos (by omega), hw2]
  by_cases h : j < v.length
  · have e : bD v j = rd v (j : Int) := by unfold bD; rw [if_pos h]
    rw [if_pos (by omega), if_pos (by omega)]
    rw [e] at hb ⊢
    have e2 : (rd v (j : Int)) % 4294967296 = rd v (j : Int) := by omega
    rw [e2, orByte w _ w0 w1 hb.1 hb.2]
  · have e : bD v j = 255 := by unfold bD; rw [if_neg h]
    rw [if_neg (by omega), orByte w 255 w0 w1 (by decide) (by decide), e]
theorem pack_loop (v : List Int) (hv : ∀ y ∈ v, 0 ≤ y ∧ y < 256) (hn : v.length ≤ 24) (key : Int) (d : Nat) : ∀ q : Nat, q + d = (v.length + 3) / 4 →
    Ev (fun k => log_Pack.l0 k (bodyD key v q) ((4 * q : Nat) : Int) key v) (packD key v, 0) := by
  induction d with
  | zero =>
    intro q hq
    have e : q = (v.length + 3) / 4 := by omega
    refine Ev.step (f := fun _ => some (packD key v, 0)) (fun k => ?_) (Ev.now _)
    simp only [log_Pack.l0]
    rw [if_neg (by omega)]
    simp only [crc_Words.f, Option.bind_some]
    rw [if_pos (by rw [bodyD_len]; omega), e]
    rfl
  | succ d ih =>
    intro q hq
    have hnext := ih (q + 1) (by omega)
    have b0 := bD_range hv (4 * q)
    have b1 := bD_range hv (4 * q + 1)
    have b2 := bD_range hv (4 * q + 1 + 1)
    have b3 := bD_range hv (4 * q + 1 + 1 + 1)
    have hbody : bodyD key v (q + 1) = bodyD key v q ++ [wordD v q] := by
      unfold bodyD
      rw [List.range_succ, List.map_append]
      rfl
    refine Ev.step (f := fun k => log_Pack.l1 k (bodyD key v q) ((4 * q : Nat) : Int) 0 ((4 * q : Nat) : Int) key v) (fun k => ?_) ?_
    · simp only [log_Pack.l0]
      rw [if_pos (by omega)]
    refine Ev.step (fun k => pack_one v hv _ (4 * q) (4 * q) (by omega) (by omega) hn 0 key (by omega) (by omega) k) ?_
    refine Ev.step (fun k => pack_one v hv _ (4 * q) (4 * q + 1) (by omega) (by omega) hn _ key (by omega) (by omega) k) ?_
    refine Ev.step (fun k => pack_one v hv _ (4 * q) (4 * q + 1 + 1) (by omega) (by omega) hn _ key (by omega) (by omega) k) ?_
    refine Ev.step (fun k => pack_one v hv _ (4 * q) (4 * q + 1 + 1 + 1) (by omega) (by omega) hn _ key (by omega) (by omega) k) ?_
    refine Ev.step (fun k => ?_) hnext
    have hw : wrap64 (((4 * q : Nat) : Int) + 4) = ((4 * (q + 1) : Nat) : Int) := by rw [w64 (by omega) (by omega)]; omega
    simp only [log_Pack.l1]
    rw [if_neg (by rw [hw]; omega), if_pos (by rw [bodyD_len]; omega), hw, hbody]
    unfold wordD
    rw [Int.zero_mul, Int.zero_add]
theorem pack_ev (v : List Int) (hv : ∀ y ∈ v, 0 ≤ y ∧ y < 256) (hn : v.length ≤ 24) (key : Int) (k0 : 0 ≤ key) (k1 : key < 16) : Ev (fun k => log_Pack.f k key v) (packD key v, 0) := by
  have h := pack_loop v hv hn key ((v.length + 3) / 4) 0 (by omega)
  refine Ev.congr (fun k => ?_) h
  unfold log_Pack.f log_Good.f
  rw [if_pos (by omega), if_pos k1, Option.bind_some, decide_eq_true (show (v.length : Int) ≤ 24 by omega), if_pos rfl]
  have e : ((1375731712 + ((key % 4294967296) * 256 % 4294967296)) % 4294967296 + ((v.length : Int) % 4294967296)) % 4294967296 = headD key v.length := by
    unfold headD
    omega
  rw [e]
  rfl
theorem byte_word (v : List Int) (hv : ∀ y ∈ v, 0 ≤ y ∧ y < 256) (k : Nat) (hk : k < v.length) : wordD v (k / 4) / 2 ^ (24 - 8 * (k % 4)) % 256 = rd v (k : Int) := by
  have b0 := bD_range hv (4 * (k / 4))
  have b1 := bD_range hv (4 * (k / 4) + 1)
  have b2 := bD_range hv (4 * (k / 4) + 2)
  have b3 := bD_range hv (4 * (k / 4) + 3)
  have hb : bD v k = rd v (k : Int) := by unfold bD; rw [if_pos hk]
  rw [← hb]
  obtain ⟨q, hq⟩ : ∃ q, q = k / 4 := ⟨_, rfl⟩
  rw [← hq] at b0 b1 b2 b3 ⊢
  unfold wordD
  have h4 : k % 4 = 0 ∨ k % 4 = 1 ∨ k % 4 = 2 ∨ k % 4 = 3 := by omega
  rcases h4 with h | h | h | h
  · have e : k = 4 * q := by omega
    rw [h, e]
    simp only [Nat.mul_zero, Nat.sub_zero]
    generalize bD v (4 * q) = x0 at *
    generalize bD v (4 * q + 1) = x1 at *
    generalize bD v (4 * q + 2) = x2 at *
    generalize bD v (4 * q + 3) = x3 at *
    omega
  · have e : k = 4 * q + 1 := by omega
    rw [h, e]
    generalize bD v (4 * q) = x0 at *
    generalize bD v (4 * q + 1) = x1 at *
    generalize bD v (4 * q + 2) = x2 at *
    generalize bD v (4 * q + 3) = x3 at *
    omega
  · have e : k = 4 * q + 2 := by omega
    rw [h, e]
    generalize bD v (4 * q) = x0 at *
    generalize bD v (4 * q + 1) = x1 at *
    generalize bD v (4 * q + 2) = x2 at *
    generalize bD v (4 * q + 3) = x3 at *
    omega
  · have e : k = 4 * q + 3 := by omega
    rw [h, e]
    generalize bD v (4 * q) = x0 at *
    generalize bD v (4 * q + 1) = x1 at *
    generalize bD v (4 * q + 2) = x2 at *
    generalize bD v (4 * q + 3) = x3 at *
    omega
theorem packD_at (key : Int) (v : List Int) (q : Nat) (hq : q < (v.length + 3) / 4) : rd (packD key v) ((1 + q : Nat) : Int) = wordD v q := by
  rw [rdI_some _ _ (by rw [packD_len]; omega)]
  unfold packD bodyD
  rw [List.getElem_append_left (by rw [List.length_cons, List.length_map, List.length_range]; omega), List.getElem_cons]
  simp
theorem vals_pack (key : Int) (v : List Int) (hv : ∀ y ∈ v, 0 ≤ y ∧ y < 256) : Lg.vals (packD key v) v.length = v := by
  apply List.ext_getElem
  · exact Lg.vals_len _ _
  · intro k h1 h2
    have e : (Lg.vals (packD key v) v.length)[k]'h1 = Lg.byteAt (packD key v) k := by simp [Lg.vals]
    rw [e]
    unfold Lg.byteAt
    rw [packD_at key v (k / 4) (by omega), byte_word v hv k h2, rdI_some v k h2]
/-- A page that is erased but for a record at its beginning. -/
theorem scan_one (key : Int) (v T : List Int) (hv : ∀ y ∈ v, 0 ≤ y ∧ y < 256) (hn : v.length ≤ 24) (k0 : 0 ≤ key) (k1 : key < 16) (e0 : Int) (hT : T.head? = some 4294967295) (k : Nat) (es : List (Int × List Int)) :
    Lg.scanF (e0 :: (packD key v ++ T)) (k + 2) es 1 = (es ++ [(key, v)], 1 + ((packD key v).length : Int)) := by
  have hlen := packD_len key v
  obtain ⟨page, hp⟩ : ∃ page, page = e0 :: (packD key v ++ T) := ⟨_, rfl⟩
  have hpl : (packD key v).length + 1 < page.length := by
    cases T with
    | nil => simp at hT
    | cons a b => rw [hp]; simp
  have r1 : rd page 1 = headD key v.length := by
    have := rdI_some page 1 (by omega)
    rw [show ((1 : Nat) : Int) = 1 from rfl] at this
    rw [this]
    simp [hp, packD, bodyD]
  have hh : headD key v.length = 1375731712 + key * 256 + v.length := rfl
  have hne : rd page 1 ≠ 4294967295 := by rw [r1, hh]; omega
  have hk : Lg.keyOf (rd page 1) = key := by
    unfold Lg.keyOf
    rw [and16 _ (by rw [r1, hh]; omega) (by rw [r1, hh]; omega), r1, hh]
    omega
  have hN : Lg.nOf (rd page 1) = v.length := by
    unfold Lg.nOf
    rw [and8 _ (by rw [r1, hh]; omega) (by rw [r1, hh]; omega), r1, hh]
    omega
  have hM : Lg.mOf (rd page 1) = ((packD key v).length : Int) := by
    unfold Lg.mOf
    rw [hN, hlen]
    omega
  have hrec : Lg.isRec (rd page 1) = true := by
    unfold Lg.isRec
    rw [decide_eq_true_iff]
    refine ⟨?_, by rw [hk]; exact k1, by rw [hN]; omega⟩
    rw [andHigh _ (by rw [r1, hh]; omega) (by rw [r1, hh]; omega), r1, hh]
    omega
  have hR : Lg.recOf page 1 = packD key v := by
    unfold Lg.recOf
    rw [hM, show (1 + ((packD key v).length : Int)).toNat = (packD key v).length + 1 by omega, show (1 : Int).toNat = 1 from rfl, hp, List.take_succ_cons, List.drop_succ_cons, List.drop_zero, List.take_left']
    rfl
  have hright : Lg.rightAt page 1 = true := by
    unfold Lg.rightAt Lg.sumOk
    rw [hR, hN]
    have hl : (((v.length : Int) + 3) / 4 + 1) = (((v.length + 3) / 4 + 1 : Nat) : Int) := by omega
    rw [hl, Int.toNat_natCast, rdI_some _ _ (by rw [hlen]; omega)]
    have ht : (packD key v).take ((v.length + 3) / 4 + 1) = bodyD key v ((v.length + 3) / 4) := by
      unfold packD
      rw [List.take_left']
      rw [bodyD_len]
    rw [ht]
    have hg : (packD key v)[(v.length + 3) / 4 + 1]'(by rw [hlen]; omega) = endD (bodyD key v ((v.length + 3) / 4)) := by
      unfold packD
      rw [List.getElem_append_right (by rw [bodyD_len]; exact Nat.le_refl _)]
      simp [bodyD_len]
    rw [hg]
    unfold endD
    exact beq_self_eq_true _
  have hent : Lg.entryAt page 1 = (key, v) := by
    unfold Lg.entryAt
    rw [hk, hN, hR, Int.toNat_natCast, vals_pack key v hv]
  rw [← hp, logYes page (k + 1) es 1 (by decide) hne hrec (by rw [hM, hlen]; omega), if_pos hright, hent, hM]
  refine logStop page (k + 1) _ _ (.inr ?_)
  have h2 := rdI_some page ((packD key v).length + 1) (by omega)
  rw [show (1 : Int) + ((packD key v).length : Int) = (((packD key v).length + 1 : Nat) : Int) by omega, h2]
  cases T with
  | nil => simp at hT
  | cons a b =>
    simp only [List.head?_cons, Option.some.injEq] at hT
    subst hT
    simp [hp]
abbrev EntT := S25
def okE (e : EntT) : Prop := 0 ≤ e.f0 ∧ e.f0 < 16 ∧ e.f1.length ≤ 24 ∧ ∀ y ∈ e.f1, 0 ≤ y ∧ y < 256
def prE (e : EntT) : Int × List Int := (e.f0, e.f1)
theorem logMk_pr (l : List EntT) : (l.map prE).map logMk = l := by
  rw [List.map_map]
  exact (List.map_congr_left (fun e _ => rfl)).trans (List.map_id l)
def packs (es : List EntT) : List Int := es.flatMap fun e => packD e.f0 e.f1
theorem packs_snoc (es : List EntT) (e : EntT) : packs (es ++ [e]) = packs es ++ packD e.f0 e.f1 := by
  unfold packs
  rw [List.flatMap_append]
  simp
theorem packs_cons (e : EntT) (es : List EntT) : packs (e :: es) = packD e.f0 e.f1 ++ packs es := rfl
theorem packs_len (es : List EntT) : 2 * es.length ≤ (packs es).length := by
  induction es with
  | nil => exact Nat.le_refl _
  | cons e es ih =>
    rw [packs_cons, List.length_append, packD_len, List.length_cons]
    omega
theorem packD_cons (key : Int) (v : List Int) : ∃ r, packD key v = headD key v.length :: r ∧ r.length = (v.length + 3) / 4 + 1 := by
  refine ⟨(List.range ((v.length + 3) / 4)).map (wordD v) ++ [endD (bodyD key v ((v.length + 3) / 4))], rfl, ?_⟩
  rw [List.length_append, List.length_map, List.length_range, List.length_singleton]
theorem rd_mid (A : List Int) (h : Int) (r : List Int) : rd (A ++ h :: r) (A.length : Int) = h := by
  rw [rdI_some _ _ (by rw [List.length_append, List.length_cons]; omega), List.getElem_append_right (Nat.le_refl _)]
  simp
theorem head_facts (key : Int) (n : Nat) (k0 : 0 ≤ key) (k1 : key < 16) (hn : n ≤ 24) (f : Int) (hf : f = headD key n) :
    f ≠ 4294967295 ∧ Lg.keyOf f = key ∧ Lg.nOf f = n ∧ Lg.mOf f = (((n + 3) / 4 + 2 : Nat) : Int) ∧ Lg.isRec f = true := by
  have hh : f = 1375731712 + key * 256 + n := hf
  have hk : Lg.keyOf f = key := by
    unfold Lg.keyOf
    rw [and16 _ (by rw [hh]; omega) (by rw [hh]; omega), hh]
    omega
  have hN : Lg.nOf f = n := by
    unfold Lg.nOf
    rw [and8 _ (by rw [hh]; omega) (by rw [hh]; omega), hh]
    omega
  refine ⟨by rw [hh]; omega, hk, hN, ?_, ?_⟩
  · unfold Lg.mOf
    rw [hN]
    omega
  · unfold Lg.isRec
    rw [decide_eq_true_iff]
    refine ⟨?_, by rw [hk]; exact k1, by rw [hN]; omega⟩
    rw [andHigh _ (by rw [hh]; omega) (by rw [hh]; omega), hh]
    omega
theorem recOf_mid (A C T : List Int) (hm : Lg.mOf (rd (A ++ (C ++ T)) (A.length : Int)) = ((C.length : Nat) : Int)) : Lg.recOf (A ++ (C ++ T)) (A.length : Int) = C := by
  unfold Lg.recOf
  rw [hm, Int.toNat_natCast, show ((A.length : Int) + ((C.length : Nat) : Int)).toNat = A.length + C.length by omega, ← List.append_assoc, List.take_left' (by rw [List.length_append]), List.drop_left']
  rfl
theorem step_yes (A T : List Int) (key : Int) (v : List Int) (hv : ∀ y ∈ v, 0 ≤ y ∧ y < 256) (hn : v.length ≤ 24) (k0 : 0 ≤ key) (k1 : key < 16) (hl : A.length + (packD key v).length ≤ 256) (k : Nat) (es : List (Int × List Int)) :
    Lg.scanF (A ++ (packD key v ++ T)) (k + 1) es (A.length : Int) = Lg.scanF (A ++ (packD key v ++ T)) k (es ++ [(key, v)]) (((A ++ packD key v).length : Nat) : Int) := by
  have hlen := packD_len key v
  obtain ⟨r, hr, _⟩ := packD_cons key v
  have h1 : rd (A ++ (packD key v ++ T)) (A.length : Int) = headD key v.length := by
    rw [hr, List.cons_append]
    exact rd_mid A _ _
  obtain ⟨hne, hk, hN, hM, hrec⟩ := head_facts key v.length k0 k1 hn _ h1
  have hM' : Lg.mOf (rd (A ++ (packD key v ++ T)) (A.length : Int)) = (((packD key v).length : Nat) : Int) := by rw [hM, hlen]
  have hR := recOf_mid A (packD key v) T hM'
  have hright : Lg.rightAt (A ++ (packD key v ++ T)) (A.length : Int) = true := by
    unfold Lg.rightAt Lg.sumOk
    rw [hR, hN]
    have hl : (((v.length : Int) + 3) / 4 + 1) = (((v.length + 3) / 4 + 1 : Nat) : Int) := by omega
    rw [hl, Int.toNat_natCast, rdI_some _ _ (by rw [hlen]; omega)]
    have ht : (packD key v).take ((v.length + 3) / 4 + 1) = bodyD key v ((v.length + 3) / 4) := by
      unfold packD
      rw [List.take_left']
      rw [bodyD_len]
    rw [ht]
    have hg : (packD key v)[(v.length + 3) / 4 + 1]'(by rw [hlen]; omega) = endD (bodyD key v ((v.length + 3) / 4)) := by
      unfold packD
      rw [List.getElem_append_right (by rw [bodyD_len]; exact Nat.le_refl _)]
      simp [bodyD_len]
    rw [hg]
    unfold endD
    exact beq_self_eq_true _
  have hent : Lg.entryAt (A ++ (packD key v ++ T)) (A.length : Int) = (key, v) := by
    unfold Lg.entryAt
    rw [hk, hN, hR, Int.toNat_natCast, vals_pack key v hv]
  rw [logYes _ k es _ (by omega) hne hrec (by rw [hM']; omega), if_pos hright, hent, hM', List.length_append]
  congr 1
theorem step_cut (A C T : List Int) (key : Int) (n : Nat) (hn : n ≤ 24) (k0 : 0 ≤ key) (k1 : key < 16) (hC : C.length = (n + 3) / 4 + 2) (h0 : ∃ r, C = headD key n :: r) (hz : rd C (((n + 3) / 4 + 1 : Nat) : Int) = 4294967295) (hl : A.length + C.length ≤ 256) (k : Nat) (es : List (Int × List Int)) :
    Lg.scanF (A ++ (C ++ T)) (k + 1) es (A.length : Int) = Lg.scanF (A ++ (C ++ T)) k es (((A ++ C).length : Nat) : Int) := by
  obtain ⟨r, hr⟩ := h0
  have h1 : rd (A ++ (C ++ T)) (A.length : Int) = headD key n := by
    rw [hr, List.cons_append]
    exact rd_mid A _ _
  obtain ⟨hne, hk, hN, hM, hrec⟩ := head_facts key n k0 k1 hn _ h1
  have hM' : Lg.mOf (rd (A ++ (C ++ T)) (A.length : Int)) = ((C.length : Nat) : Int) := by rw [hM, hC]
  have hR := recOf_mid A C T hM'
  have hright : Lg.rightAt (A ++ (C ++ T)) (A.length : Int) = false := by
    unfold Lg.rightAt Lg.sumOk
    rw [hR, hN]
    have hl : (((n : Int) + 3) / 4 + 1) = (((n + 3) / 4 + 1 : Nat) : Int) := by omega
    rw [hl, hz]
    have hs := sumW_range (C.take ((((n + 3) / 4 + 1 : Nat) : Int)).toNat) (C.take ((((n + 3) / 4 + 1 : Nat) : Int)).toNat).length
    refine beq_eq_false_iff_ne.mpr ?_
    omega
  rw [logYes _ k es _ (by omega) hne hrec (by rw [hM']; omega), if_neg (by rw [hright]; simp), hM', List.length_append]
  congr 1
theorem scan_all (es : List EntT) (hok : ∀ e ∈ es, okE e) : ∀ (A T : List Int) (k : Nat) (done : List (Int × List Int)), A.length + (packs es).length ≤ 256 →
    Lg.scanF (A ++ (packs es ++ T)) (k + es.length) done (A.length : Int) = Lg.scanF (A ++ (packs es ++ T)) k (done ++ es.map prE) (((A ++ packs es).length : Nat) : Int) := by
  induction es with
  | nil =>
    intro A T k done _
    rw [List.length_nil, Nat.add_zero, List.map_nil, List.append_nil]
    show _ = Lg.scanF _ k done (((A ++ []).length : Nat) : Int)
    rw [List.append_nil]
  | cons e es ih =>
    intro A T k done hl
    obtain ⟨k0, k1, hn, hv⟩ := hok e (by simp)
    rw [packs_cons, List.length_append] at hl
    have h := step_yes A (packs es ++ T) e.f0 e.f1 hv hn k0 k1 (by omega) (k + es.length) done
    rw [packs_cons, List.length_cons, ← Nat.add_assoc, List.append_assoc, h]
    have h2 := ih (fun x hx => hok x (by simp [hx])) (A ++ packD e.f0 e.f1) T k (done ++ [(e.f0, e.f1)]) (by rw [List.length_append]; omega)
    rw [List.append_assoc] at h2
    rw [h2, List.map_cons, List.append_assoc, List.append_assoc]
    rfl
def FF : Int := 4294967295
def pageOf (es : List EntT) : List Int := FF :: (packs es ++ List.replicate (255 - (packs es).length) FF)
theorem pageOf_len (es : List EntT) (h : (packs es).length ≤ 255) : (pageOf es).length = 256 := by
  unfold pageOf
  rw [List.length_cons, List.length_append, List.length_replicate]
  omega
theorem rd_ff (A : List Int) (n : Nat) (h : A.length + n = 256) : (256 : Int) ≤ (A.length : Int) ∨ rd (A ++ List.replicate n FF) (A.length : Int) = 4294967295 := by
  cases n with
  | zero => exact .inl (by omega)
  | succ n =>
    refine .inr ?_
    rw [List.replicate_succ]
    exact rd_mid A _ _
theorem scan_page (es : List EntT) (hok : ∀ e ∈ es, okE e) (h : (packs es).length ≤ 255) : log_Scan.f (pageOf es) = some (es, 1 + ((packs es).length : Int), 0) := by
  have hp := packs_len es
  unfold log_Scan.f
  rw [if_pos (pageOf_len es h)]
  obtain ⟨k, hk⟩ : ∃ k, 256 = k + es.length := ⟨256 - es.length, by omega⟩
  have h1 := scan_all es hok [FF] (List.replicate (255 - (packs es).length) FF) k [] (by rw [List.length_singleton]; omega)
  have e : ([FF] ++ (packs es ++ List.replicate (255 - (packs es).length) FF)) = pageOf es := rfl
  rw [e, ← hk] at h1
  have hL : (([FF] ++ packs es).length : Int) = 1 + ((packs es).length : Int) := by
    rw [List.length_append, List.length_singleton]
    omega
  have h2 := logStop (pageOf es) k (es.map prE) (([FF] ++ packs es).length : Int) (by
    have := rd_ff ([FF] ++ packs es) (255 - (packs es).length) (by rw [List.length_append, List.length_singleton]; omega)
    rw [List.append_assoc, e] at this
    exact this)
  rw [List.nil_append, h2] at h1
  have h3 : Lg.scanF (pageOf es) 256 [] 1 = (es.map prE, 1 + ((packs es).length : Int)) := by
    rw [← hL]
    exact h1
  rw [h3]
  show some ((es.map prE).map logMk, _, _) = _
  rw [logMk_pr]
theorem page_copy (es : List EntT) (e : EntT) (h : (packs (es ++ [e])).length ≤ 255) : copyIn (pageOf es) (1 + (packs es).length) (packD e.f0 e.f1) = pageOf (es ++ [e]) := by
  have hl : (packs es).length + (packD e.f0 e.f1).length ≤ 255 := by rw [packs_snoc, List.length_append] at h; exact h
  unfold copyIn
  rw [pageOf_len es (by omega), List.take_of_length_le (l := packD e.f0 e.f1) (by omega), show min (packD e.f0 e.f1).length (256 - (1 + (packs es).length)) = (packD e.f0 e.f1).length by omega]
  unfold pageOf
  rw [packs_snoc, Nat.add_comm 1, List.take_succ_cons, List.take_left' rfl, Nat.add_right_comm, List.drop_succ_cons, List.drop_append, List.drop_of_length_le (l := packs es) (by omega), List.nil_append, List.drop_replicate, List.length_append, List.cons_append, List.append_assoc, show 255 - (packs es).length - ((packs es).length + (packD e.f0 e.f1).length - (packs es).length) = 255 - ((packs es).length + (packD e.f0 e.f1).length) by omega]
/-- The page cut from a place of the last record on. -/
def cutOf (es : List EntT) (P : List Int) (w : Nat) : List Int := ([FF] ++ packs es) ++ (P.take w ++ List.replicate (255 - (packs es).length - w) FF)
theorem scan_cut (es : List EntT) (e : EntT) (hok : ∀ e ∈ es, okE e) (he : okE e) (w : Nat) (hw : w < (packD e.f0 e.f1).length) (h : (packs es).length + (packD e.f0 e.f1).length ≤ 255) : ∃ i, log_Scan.f (cutOf es (packD e.f0 e.f1) w) = some (es, i, 0) := by
  obtain ⟨k0, k1, hn, hv⟩ := he
  have hp := packs_len es
  have hlen := packD_len e.f0 e.f1
  have hcl : (cutOf es (packD e.f0 e.f1) w).length = 256 := by
    unfold cutOf
    rw [List.length_append, List.length_append, List.length_append, List.length_take, List.length_replicate, List.length_singleton]
    omega
  unfold log_Scan.f
  rw [if_pos hcl]
  obtain ⟨k, hk⟩ : ∃ k, 256 = (k + 1) + es.length := ⟨255 - es.length, by omega⟩
  obtain ⟨X, hX⟩ : ∃ X, X = (packD e.f0 e.f1).take w ++ List.replicate (255 - (packs es).length - w) FF := ⟨_, rfl⟩
  have e1 : [FF] ++ (packs es ++ X) = cutOf es (packD e.f0 e.f1) w := by
    unfold cutOf
    rw [List.append_assoc, ← hX]
  have h1 := scan_all es hok [FF] X (k + 1) [] (by rw [List.length_singleton]; omega)
  rw [e1, ← hk, List.nil_append] at h1
  obtain ⟨A, hA⟩ : ∃ A, A = [FF] ++ packs es := ⟨_, rfl⟩
  have hAl : A.length = 1 + (packs es).length := by rw [hA, List.length_append, List.length_singleton]
  rw [← hA] at h1
  have e2 : cutOf es (packD e.f0 e.f1) w = A ++ X := by
    unfold cutOf
    rw [hA, ← hX]
  have fin : ∃ i, Lg.scanF (A ++ X) (k + 1) (es.map prE) (A.length : Int) = (es.map prE, i) := by
    cases w with
    | zero =>
      refine ⟨A.length, logStop _ _ _ _ ?_⟩
      rw [hX, List.take_zero, List.nil_append]
      exact rd_ff A _ (by omega)
    | succ w =>
      obtain ⟨r, hr, hrl⟩ := packD_cons e.f0 e.f1
      obtain ⟨C, hC⟩ : ∃ C, C = (packD e.f0 e.f1).take (w + 1) ++ List.replicate ((packD e.f0 e.f1).length - (w + 1)) FF := ⟨_, rfl⟩
      have hCl : C.length = (packD e.f0 e.f1).length := by
        rw [hC, List.length_append, List.length_take, List.length_replicate]
        omega
      have eX : X = C ++ List.replicate (255 - (packs es).length - (packD e.f0 e.f1).length) FF := by
        rw [hX, hC, List.append_assoc, List.replicate_append_replicate]
        congr 2
        omega
      have hz : rd C (((e.f1.length + 3) / 4 + 1 : Nat) : Int) = 4294967295 := by
        rw [rdI_some _ _ (by rw [hCl]; omega)]
        have : C[(e.f1.length + 3) / 4 + 1]'(by rw [hCl]; omega) = FF := by
          simp only [hC]
          rw [List.getElem_append_right (by rw [List.length_take]; omega)]
          simp
        exact this
      have hs := step_cut A C (List.replicate (255 - (packs es).length - (packD e.f0 e.f1).length) FF) e.f0 e.f1.length hn k0 k1 (by rw [hCl, hlen]) (by rw [hC, hr]; exact ⟨_, rfl⟩) hz (by omega) k (es.map prE)
      rw [← eX] at hs
      refine ⟨(((A ++ C).length : Nat) : Int), hs.trans (logStop _ _ _ _ ?_)⟩
      have := rd_ff (A ++ C) (255 - (packs es).length - (packD e.f0 e.f1).length) (by rw [List.length_append]; omega)
      rw [List.append_assoc, ← eX] at this
      exact this
  obtain ⟨i, hi⟩ := fin
  refine ⟨i, ?_⟩
  have h3 : Lg.scanF (cutOf es (packD e.f0 e.f1) w) 256 [] 1 = (es.map prE, i) := by
    rw [e2] at h1 ⊢
    exact h1.trans hi
  rw [h3]
  show some ((es.map prE).map logMk, _, _) = _
  rw [logMk_pr]
abbrev AskT := S30
theorem rdE (l : List EntT) (i : Nat) (h : i < l.length) : rd_T25 l (i : Int) = l[i] := by
  unfold rd_T25
  rw [Int.toNat_natCast, List.getD_eq_getElem?_getD, List.getElem?_eq_getElem h]
  rfl
theorem eqEntry_same (e : EntT) (h : e.f1.length < 9223372036854775807) : Ev (fun k => gimbalref0_EqEntry.f k e.f0 e.f1 e.f0 e.f1) true := by
  refine Ev.congr (f := fun k => (gimbalref0_EqBytes.f k e.f1 e.f1).bind fun t => some t) (fun k => ?_) (Ev.bind (eqBytes_same e.f1 e.f1 h rfl) (Ev.now _))
  unfold gimbalref0_EqEntry.f
  rw [if_pos rfl]
theorem eqEntries_loop (l : List EntT) (hb : ∀ e ∈ l, e.f1.length < 9223372036854775807) (hl : l.length < 9223372036854775807) (d : Nat) : ∀ j : Nat, j + d = l.length → Ev (fun k => gimbalref0_EqEntries.l0 k l l (j : Int)) true := by
  induction d with
  | zero =>
    intro j hj
    refine Ev.step (f := fun _ => some true) (fun k => ?_) (Ev.now _)
    simp only [gimbalref0_EqEntries.l0]
    rw [if_neg (by omega)]
  | succ d ih =>
    intro j hj
    have hlt : j < l.length := by omega
    refine Ev.step (f := fun k => (gimbalref0_EqEntry.f k (l[j]).f0 (l[j]).f1 (l[j]).f0 (l[j]).f1).bind fun t => if t = true then gimbalref0_EqEntries.l0 k l l ((j + 1 : Nat) : Int) else some false) (fun k => ?_) ?_
    · simp only [gimbalref0_EqEntries.l0]
      rw [if_pos (by omega), if_pos (by omega), if_pos (by omega), rdE l j hlt, w64s j (by omega)]
    · refine Ev.bind (eqEntry_same l[j] (hb _ (List.getElem_mem hlt))) ?_
      refine Ev.congr (f := fun k => gimbalref0_EqEntries.l0 k l l ((j + 1 : Nat) : Int)) (fun k => ?_) (ih (j + 1) (by omega))
      rw [if_pos rfl]
theorem eqEntries_same (l m : List EntT) (he : l = m) (hb : ∀ e ∈ l, e.f1.length < 9223372036854775807) (hl : l.length < 9223372036854775807) : Ev (fun k => gimbalref0_EqEntries.f k l m) true := by
  subst he
  refine Ev.congr (f := fun k => gimbalref0_EqEntries.l0 k l l 0) (fun k => ?_) (eqEntries_loop l hb hl l.length 0 (by omega))
  unfold gimbalref0_EqEntries.f
  rw [if_pos rfl]
theorem copyWords_loop (l : List Int) (hl : l.length ≤ 1000) (d : Nat) : ∀ j : Nat, j + d = l.length → Ev (fun k => gimbalref0_CopyWords.l0 k l (l.take j) (j : Int)) l := by
  induction d with
  | zero =>
    intro j hj
    refine Ev.step (f := fun _ => some l) (fun k => ?_) (Ev.now _)
    simp only [gimbalref0_CopyWords.l0]
    rw [if_neg (by omega), List.take_of_length_le (by omega)]
  | succ d ih =>
    intro j hj
    have hlt : j < l.length := by omega
    have h := ih (j + 1) (by omega)
    rw [List.take_succ_eq_append_getElem hlt, ← rdI_some l j hlt] at h
    refine Ev.step (fun k => ?_) h
    simp only [gimbalref0_CopyWords.l0]
    rw [if_pos (by omega), if_pos (by omega), if_pos (by rw [List.length_take]; omega), w64s j (by omega)]
theorem copyWords_ev (l : List Int) (hl : l.length ≤ 1000) : Ev (fun k => gimbalref0_CopyWords.f k l) l := by
  have h := copyWords_loop l hl l.length 0 (by omega)
  rw [List.take_zero] at h
  exact h
theorem within_ev (a n : Int) (h0 : 0 < n) (h1 : n ≤ 1000) : ∃ g, gimballaw0_Within.f a n = some g ∧ 0 ≤ g ∧ g < n := by
  have hu : IntKind.u64.wrap n = n := by rw [IntKind.wrap_u64]; omega
  have hw : 0 ≤ IntKind.u64.wrap a := by rw [IntKind.wrap_u64]; omega
  have hm : 0 ≤ (IntKind.u64.wrap a) % n ∧ (IntKind.u64.wrap a) % n < n := ⟨Int.emod_nonneg _ (by omega), Int.emod_lt_of_pos _ h0⟩
  refine ⟨(IntKind.u64.wrap a) % n, ?_, hm.1, hm.2⟩
  unfold gimballaw0_Within.f
  rw [hu, if_neg (by omega), Int.tmod_eq_emod_of_nonneg hw, w64 (by omega) (by omega)]
theorem pack_bad (key : Int) (v : List Int) (h : ¬ (0 ≤ key ∧ key < 16 ∧ v.length ≤ 24)) : Ev (fun k => log_Pack.f k key v) ([], 1) := by
  refine Ev.congr (f := fun _ => some (([] : List Int), (1 : Int))) (fun k => ?_) (Ev.now _)
  unfold log_Pack.f log_Good.f
  by_cases h1 : key ≥ 0
  · by_cases h2 : key < 16
    · rw [if_pos h1, if_pos h2, Option.bind_some, decide_eq_false (by omega), if_neg (by simp)]
    · rw [if_pos h1, if_neg h2, Option.bind_some, if_neg (by simp)]
  · rw [if_neg h1, Option.bind_some, if_neg (by simp)]
/-- A page with j words from s on erased. -/
def cutJ (l : List Int) (s j : Nat) : List Int := l.take s ++ (List.replicate j FF ++ l.drop (s + j))
theorem cutJ_len (l : List Int) (s j : Nat) (h : s + j ≤ l.length) : (cutJ l s j).length = l.length := by
  unfold cutJ
  rw [List.length_append, List.length_append, List.length_take, List.length_replicate, List.length_drop]
  omega
theorem cutJ_set (l : List Int) (s j : Nat) (h : s + j < l.length) : (cutJ l s j).set (s + j) FF = cutJ l s (j + 1) := by
  unfold cutJ
  rw [List.set_append, if_neg (by rw [List.length_take]; omega), List.length_take, show s + j - min s l.length = j by omega, List.set_append, if_neg (by rw [List.length_replicate]; omega), List.length_replicate, Nat.sub_self]
  obtain ⟨a, r, hr⟩ : ∃ a r, l.drop (s + j) = a :: r := ⟨_, _, List.drop_eq_getElem_cons h⟩
  have hd : l.drop (s + (j + 1)) = r := by
    rw [← Nat.add_assoc, ← List.drop_drop, hr]
    rfl
  rw [hr, List.set_cons_zero, hd, List.replicate_succ', List.append_assoc]
  rfl
theorem cutJ_zero (l : List Int) (s : Nat) : cutJ l s 0 = l := by
  unfold cutJ
  rw [List.replicate_zero, List.nil_append, Nat.add_zero, List.take_append_drop]
theorem cutJ_end (es : List EntT) (e : EntT) (w : Nat) (hw : w ≤ (packD e.f0 e.f1).length) (h : (packs es).length + (packD e.f0 e.f1).length ≤ 255) :
    cutJ (pageOf (es ++ [e])) (1 + (packs es).length + w) ((packD e.f0 e.f1).length - w) = cutOf es (packD e.f0 e.f1) w := by
  unfold cutJ cutOf pageOf
  obtain ⟨P, hP⟩ : ∃ P, P = packD e.f0 e.f1 := ⟨_, rfl⟩
  rw [← hP] at hw h ⊢
  rw [packs_snoc, ← hP]
  rw [show 1 + (packs es).length + w + (P.length - w) = ((packs es).length + P.length) + 1 by omega, show 1 + (packs es).length + w = ((packs es).length + w) + 1 by omega]
  rw [List.take_succ_cons, List.drop_succ_cons, List.take_append_of_le_length (by rw [List.length_append]; omega), List.take_append, List.take_of_length_le (l := packs es) (by omega), show (packs es).length + w - (packs es).length = w by omega, List.drop_left' (by rw [List.length_append])]
  rw [List.length_append, List.replicate_append_replicate]
  simp only [List.cons_append, List.nil_append, List.append_assoc]
  rw [show P.length - w + (255 - ((packs es).length + P.length)) = 255 - (packs es).length - w by omega]
theorem page_set (i : Nat) (h : i < 256) : (List.replicate i (4294967295 : Int) ++ List.replicate (256 - i) (0 : Int)).set i 4294967295 = List.replicate (i + 1) (4294967295 : Int) ++ List.replicate (256 - (i + 1)) (0 : Int) := by
  rw [List.set_append, if_neg (by rw [List.length_replicate]; omega), List.length_replicate, Nat.sub_self]
  obtain ⟨n, hn⟩ : ∃ n, 256 - i = n + 1 := ⟨255 - i, by omega⟩
  rw [hn, show 256 - (i + 1) = n by omega, List.replicate_succ, List.set_cons_zero, List.replicate_succ' (n := i), List.append_assoc]
  rfl
section
variable (x0 : List AskT) (x3 : Int) (hnext : Ev (fun k => gimballaw30_LogRows.l0 k x0 (wrap64 (x3 + 1))) true)
include hnext
theorem l3_ev (es : List EntT) (e : EntT) (hok : ∀ e ∈ es, okE e) (he : okE e) (w : Nat) (hw : w < (packD e.f0 e.f1).length) (h : (packs es).length + (packD e.f0 e.f1).length ≤ 255) (d : Nat) : ∀ j : Nat, j + d = (packD e.f0 e.f1).length - w →
    Ev (fun k => gimballaw30_LogRows.l3 k x0 x3 (1 + ((packs (es ++ [e])).length : Int)) (es ++ [e]) (cutJ (pageOf (es ++ [e])) (1 + (packs es).length + w) j) ((1 + (packs es).length + w + j : Nat) : Int)) true := by
  have hpl : (packs (es ++ [e])).length = (packs es).length + (packD e.f0 e.f1).length := by rw [packs_snoc, List.length_append]
  have hp := packs_len es
  have hpg := pageOf_len (es ++ [e]) (by omega)
  induction d with
  | zero =>
    intro j hj
    obtain rfl : j = (packD e.f0 e.f1).length - w := by omega
    rw [cutJ_end es e w (by omega) h]
    obtain ⟨i, hi⟩ := scan_cut es e hok he w hw h
    refine Ev.step (f := fun k => (gimbalref0_EqEntries.f k es es).bind fun t => if t = true then gimballaw30_LogRows.l0 k x0 (wrap64 (x3 + 1)) else some false) (fun k => ?_) ?_
    · simp only [gimballaw30_LogRows.l3]
      have hw1 : wrap64 (((es ++ [e]).length : Int) - 1) = (es.length : Int) := by rw [List.length_append, List.length_singleton, w64 (by omega) (by omega)]; omega
      rw [if_neg (by rw [hpl]; omega), hi]
      simp only [Option.bind_some]
      rw [show gimballaw30_num.f 0 = some 0 from rfl, Option.bind_some, if_pos rfl, hw1, if_pos (by omega), if_pos (by rw [List.length_append]; omega), Int.toNat_natCast, List.take_left' rfl]
    · refine Ev.bind (eqEntries_same es es rfl (fun x hx => by have := (hok x hx).2.2.1; omega) (by omega)) ?_
      refine Ev.congr (fun k => ?_) hnext
      rw [if_pos rfl]
  | succ d ih =>
    intro j hj
    have hs := ih (j + 1) (by omega)
    rw [← cutJ_set _ _ _ (by omega)] at hs
    refine Ev.step (fun k => ?_) hs
    simp only [gimballaw30_LogRows.l3]
    rw [if_pos (by rw [hpl]; omega), if_pos (by omega), if_pos (by rw [cutJ_len _ _ _ (by omega), hpg]; omega), Int.toNat_natCast, w64s _ (by omega)]
    rfl
variable (key : Int) (v : List Int) (gen wd : Int) (pg : List Int) (L : List EntT) (N : Int)
def lastOk (es : List EntT) (last : Int) : Prop := (es = [] ∧ last = 1) ∨ ∃ is e, es = is ++ [e] ∧ last = 1 + ((packs is).length : Int)
theorem j4_ev (es : List EntT) (last : Int) (hok : ∀ e ∈ es, okE e) (h : (packs es).length ≤ 255) (hlast : lastOk es last) :
    Ev (fun k => gimballaw30_LogRows.j4 k x0 x3 (pageOf es) (1 + ((packs es).length : Int)) es last false key v gen wd pg L N) true := by
  rcases hlast with ⟨rfl, rfl⟩ | ⟨is, e, rfl, rfl⟩
  · refine Ev.step (fun k => ?_) hnext
    simp only [gimballaw30_LogRows.j4]
    rw [if_neg (by simp), if_pos (by rfl)]
  · have hpl : (packs (is ++ [e])).length = (packs is).length + (packD e.f0 e.f1).length := by rw [packs_snoc, List.length_append]
    have hpd := packD_len e.f0 e.f1
    have he := hok e (by simp)
    have hn : wrap64 (1 + ((packs (is ++ [e])).length : Int) - (1 + ((packs is).length : Int))) = ((packD e.f0 e.f1).length : Int) := by rw [w64 (by omega) (by omega)]; omega
    obtain ⟨g, hg, g0, g1⟩ := within_ev N ((packD e.f0 e.f1).length : Int) (by omega) (by omega)
    obtain ⟨w, rfl⟩ := Int.eq_ofNat_of_zero_le g0
    have h3 := l3_ev x0 x3 hnext is e (fun x hx => hok x (by simp [hx])) he w (by omega) (by omega) ((packD e.f0 e.f1).length - w) 0 (by omega)
    rw [cutJ_zero] at h3
    refine Ev.step (f := fun k => (gimbalref0_CopyWords.f k (pageOf (is ++ [e]))).bind fun t164 => gimballaw30_LogRows.l3 k x0 x3 (1 + ((packs (is ++ [e])).length : Int)) (is ++ [e]) t164 ((1 + (packs is).length + w + 0 : Nat) : Int)) (fun k => ?_) (Ev.bind (copyWords_ev _ (by rw [pageOf_len _ h]; omega)) h3)
    simp only [gimballaw30_LogRows.j4]
    rw [if_neg (by simp), if_neg (by rw [List.length_append, List.length_singleton]; omega), hn, hg]
    simp only [Option.bind_some]
    rw [w64 (by omega) (by omega)]
    rfl
theorem l2_ev (hL : L.length ≤ 60) (hwf : ∀ e ∈ L, ∀ y ∈ e.f1, 0 ≤ y ∧ y < 256) (d : Nat) : ∀ (j : Nat) (es : List EntT) (last : Int), j + d = L.length → (∀ e ∈ es, okE e) → (packs es).length ≤ 255 → lastOk es last →
    Ev (fun k => gimballaw30_LogRows.l2 k x0 x3 (pageOf es) (1 + ((packs es).length : Int)) es last (j : Int) key v gen wd pg L N) true := by
  induction d with
  | zero =>
    intro j es last hj hok h hlast
    have hp := packs_len es
    refine Ev.step (f := fun k => (gimbalref0_EqEntries.f k es es).bind fun t163 => gimballaw30_LogRows.j4 k x0 x3 (pageOf es) (1 + ((packs es).length : Int)) es last (!t163) key v gen wd pg L N) (fun k => ?_) (Ev.bind (eqEntries_same es es rfl (fun x hx => by have := (hok x hx).2.2.1; omega) (by omega)) (j4_ev x0 x3 hnext key v gen wd pg L N es last hok h hlast))
    simp only [gimballaw30_LogRows.l2]
    rw [if_neg (by omega), scan_page es hok h]
    simp only [Option.bind_some]
    rw [show gimballaw30_num.f 0 = some 0 from rfl, Option.bind_some, if_pos rfl]
    exact if_pos trivial
  | succ d ih =>
    intro j es last hj hok h hlast
    have hlt : j < L.length := by omega
    have hp := packs_len es
    have skip := ih (j + 1) es last (by omega) hok h hlast
    have hE := rdE L j hlt
    obtain ⟨e, he⟩ : ∃ e, e = L[j] := ⟨_, rfl⟩
    rw [← he] at hE
    have hem : e ∈ L := by rw [he]; exact List.getElem_mem hlt
    by_cases hg : 0 ≤ e.f0 ∧ e.f0 < 16 ∧ e.f1.length ≤ 24
    · obtain ⟨k0, k1, hn⟩ := hg
      have hpd := packD_len e.f0 e.f1
      have hpk := pack_ev e.f1 (hwf e hem) hn e.f0 k0 k1
      have hsum : wrap64 (1 + ((packs es).length : Int) + ((packD e.f0 e.f1).length : Int)) = 1 + ((packs es).length : Int) + ((packD e.f0 e.f1).length : Int) := w64 (by omega) (by omega)
      by_cases hfit : (packs es).length + (packD e.f0 e.f1).length ≤ 255
      · have hpl : (packs (es ++ [e])).length = (packs es).length + (packD e.f0 e.f1).length := by rw [packs_snoc, List.length_append]
        have go := ih (j + 1) (es ++ [e]) (1 + ((packs es).length : Int)) (by omega) (fun x hx => by
          rcases List.mem_append.1 hx with hx | hx
          · exact hok x hx
          · rw [List.mem_singleton.1 hx]
            exact ⟨k0, k1, hn, hwf e hem⟩) (by omega) (.inr ⟨es, e, rfl, rfl⟩)
        refine Ev.step (f := fun k => (log_Pack.f k e.f0 e.f1).bind fun bt => if bt.2 = 0 then (if wrap64 (1 + ((packs es).length : Int) + (bt.1.length : Int)) > 256 then gimballaw30_LogRows.l2 k x0 x3 (pageOf es) (1 + ((packs es).length : Int)) es last ((j + 1 : Nat) : Int) key v gen wd pg L N else gimballaw30_LogRows.l2 k x0 x3 (copyIn (pageOf es) (1 + (packs es).length) bt.1) (wrap64 (1 + ((packs es).length : Int) + (bt.1.length : Int))) (es ++ [e]) (1 + ((packs es).length : Int)) ((j + 1 : Nat) : Int) key v gen wd pg L N) else gimballaw30_LogRows.l2 k x0 x3 (pageOf es) (1 + ((packs es).length : Int)) es last ((j + 1 : Nat) : Int) key v gen wd pg L N) (fun k => ?_) (Ev.bind hpk ?_)
        · simp only [gimballaw30_LogRows.l2, gimballaw30_num.f, Option.bind_some, hE]
          rw [if_pos (by omega), if_pos (by omega), w64s j (by omega), show (1 + ((packs es).length : Int)).toNat = 1 + (packs es).length by omega]
          congr 1
          funext bt
          split
          · split
            · rfl
            · rw [if_pos (by omega), if_pos (by rw [pageOf_len es h]; omega), if_pos (by omega)]
          · rfl
        · refine Ev.congr (fun k => ?_) go
          show (if (0 : Int) = 0 then _ else _) = _
          rw [if_pos rfl, hsum, if_neg (by omega), page_copy es e (by omega), hpl]
          congr 1
          omega
      · refine Ev.step (f := fun k => (log_Pack.f k e.f0 e.f1).bind fun bt => if bt.2 = 0 then (if wrap64 (1 + ((packs es).length : Int) + (bt.1.length : Int)) > 256 then gimballaw30_LogRows.l2 k x0 x3 (pageOf es) (1 + ((packs es).length : Int)) es last ((j + 1 : Nat) : Int) key v gen wd pg L N else gimballaw30_LogRows.l2 k x0 x3 (copyIn (pageOf es) (1 + (packs es).length) bt.1) (wrap64 (1 + ((packs es).length : Int) + (bt.1.length : Int))) (es ++ [e]) (1 + ((packs es).length : Int)) ((j + 1 : Nat) : Int) key v gen wd pg L N) else gimballaw30_LogRows.l2 k x0 x3 (pageOf es) (1 + ((packs es).length : Int)) es last ((j + 1 : Nat) : Int) key v gen wd pg L N) (fun k => ?_) (Ev.bind hpk ?_)
        · simp only [gimballaw30_LogRows.l2, gimballaw30_num.f, Option.bind_some, hE]
          rw [if_pos (by omega), if_pos (by omega), w64s j (by omega), show (1 + ((packs es).length : Int)).toNat = 1 + (packs es).length by omega]
          congr 1
          funext bt
          split
          · split
            · rfl
            · rw [if_pos (by omega), if_pos (by rw [pageOf_len es h]; omega), if_pos (by omega)]
          · rfl
        · refine Ev.congr (fun k => ?_) skip
          show (if (0 : Int) = 0 then _ else _) = _
          rw [if_pos rfl, hsum, if_pos (by omega)]
    · refine Ev.step (f := fun k => (log_Pack.f k e.f0 e.f1).bind fun bt => if bt.2 = 0 then none else gimballaw30_LogRows.l2 k x0 x3 (pageOf es) (1 + ((packs es).length : Int)) es last ((j + 1 : Nat) : Int) key v gen wd pg L N) (fun k => ?_) (Ev.bind (pack_bad e.f0 e.f1 hg) ?_)
      · have hb : log_Pack.f k e.f0 e.f1 = some ([], 1) := by
          unfold log_Pack.f log_Good.f
          by_cases h1 : e.f0 ≥ 0
          · by_cases h2 : e.f0 < 16
            · rw [if_pos h1, if_pos h2, Option.bind_some, decide_eq_false (by omega), if_neg (by simp)]
            · rw [if_pos h1, if_neg h2, Option.bind_some, if_neg (by simp)]
          · rw [if_neg h1, Option.bind_some, if_neg (by simp)]
        simp only [gimballaw30_LogRows.l2, gimballaw30_num.f, hE, hb, Option.bind_some]
        rw [if_pos (by omega), if_pos (by omega), w64s j (by omega), if_neg (by decide), if_neg (by decide)]
      · refine Ev.congr (fun k => ?_) skip
        show (if (1 : Int) = 0 then _ else _) = _
        rw [if_neg (by decide)]
theorem l1_ev (hL : L.length ≤ 60) (hwf : ∀ e ∈ L, ∀ y ∈ e.f1, 0 ≤ y ∧ y < 256) (d : Nat) : ∀ i : Nat, i + d = 256 →
    Ev (fun k => gimballaw30_LogRows.l1 k x0 x3 (List.replicate i (4294967295 : Int) ++ List.replicate (256 - i) (0 : Int)) (i : Int) key v gen wd pg L N) true := by
  induction d with
  | zero =>
    intro i hi
    obtain rfl : i = 256 := by omega
    have e0 : (List.replicate 256 (4294967295 : Int) ++ List.replicate (256 - 256) (0 : Int)) = pageOf [] := by
      rw [Nat.sub_self, List.replicate_zero, List.append_nil]
      rfl
    have h := l2_ev x0 x3 hnext key v gen wd pg L N hL hwf L.length 0 [] 1 (by omega) (by simp) (by show (0 : Nat) ≤ 255; omega) (.inl ⟨rfl, rfl⟩)
    rw [e0]
    refine Ev.step (fun k => ?_) h
    simp only [gimballaw30_LogRows.l1]
    rw [if_neg (by rw [pageOf_len [] (by show (0 : Nat) ≤ 255; omega)]; omega)]
    rfl
  | succ d ih =>
    intro i hi
    have h := ih (i + 1) (by omega)
    rw [← page_set i (by omega)] at h
    refine Ev.step (fun k => ?_) h
    simp only [gimballaw30_LogRows.l1]
    rw [if_pos (by rw [List.length_append, List.length_replicate, List.length_replicate]; omega), if_pos (by omega), Int.toNat_natCast, w64s i (by omega)]
end
theorem wakes_now : gimballaw30_wakes.f = some true := by decide +kernel
theorem main_loop (l : List AskT) (hw : ∀ y ∈ l, wf30 y) (_hl : l.length ≤ 9223372036854775807) (d : Nat) : ∀ i : Nat, i + d = l.length → Ev (fun k => gimballaw30_LogRows.l0 k l (i : Int)) true := by
  induction d with
  | zero =>
    intro i hi
    refine Ev.step (f := fun k => gimballaw30_LogRows.j1 k l i false) (fun k => ?_) (Ev.step (f := fun _ => some true) (fun k => ?_) (Ev.now _))
    · simp only [gimballaw30_LogRows.l0]
      rw [if_neg (by omega)]
    · simp only [gimballaw30_LogRows.j1]
      rw [if_neg (by simp), wakes_now]
      rfl
  | succ d ih =>
    intro i hi
    have hlt : i < l.length := by omega
    refine Ev.step (f := fun k => gimballaw30_LogRows.j1 k l i (decide ((i : Int) < 4))) (fun k => ?_) ?_
    · simp only [gimballaw30_LogRows.l0]
      rw [if_pos (by omega)]
    by_cases h20 : (i : Int) < 4
    · obtain ⟨p, hp⟩ : ∃ p, p = rd_T30 l i := ⟨_, rfl⟩
      have hpm : p ∈ l := by
        rw [hp]
        unfold rd_T30
        rw [Int.toNat_natCast, List.getD_eq_getElem?_getD, List.getElem?_eq_getElem hlt]
        exact List.getElem_mem hlt
      have hwp := hw p hpm
      have hv : ∀ e ∈ p.f4, ∀ y ∈ e.f1, 0 ≤ y ∧ y < 256 := fun e he y hy => by
        have := (hwp.2.2.2.2.1.2 e he).2.2 y hy
        simp [Lit.wf, IntKind.min, IntKind.max, IntKind.bits, IntKind.signed] at this
        omega
      have hnext := ih (i + 1) (by omega)
      rw [← w64s i (by omega)] at hnext
      rw [decide_eq_true h20]
      obtain ⟨b, hb, hb2⟩ : ∃ b, gimballaw30_heavy.f p.f0.f0 p.f0.f1 p.f1 p.f2 p.f3 p.f4 p.f5 = some b ∧ (b = false → p.f4.length ≤ 60) := by
        unfold gimballaw30_heavy.f
        split
        · exact ⟨_, rfl, fun h => by cases h⟩
        · split
          · exact ⟨_, rfl, fun h => by cases h⟩
          · exact ⟨_, rfl, fun h => by have := of_decide_eq_false h; omega⟩
      by_cases hbt : b = true
      · refine Ev.step (f := fun _ => some true) (fun k => ?_) (Ev.now _)
        simp only [gimballaw30_LogRows.j1]
        rw [if_pos trivial, if_pos (by omega), if_pos (by omega), ← hp, hb, Option.bind_some, if_pos hbt]
      · have h1 := l1_ev l i hnext p.f0.f0 p.f0.f1 p.f1 p.f2 p.f3 p.f4 p.f5 (hb2 (by simpa using hbt)) hv 256 0 (by omega)
        obtain ⟨Z, hZ⟩ : ∃ Z : List Int, Z = List.replicate 256 (0 : Int) := ⟨_, rfl⟩
        rw [List.replicate_zero, List.nil_append, Nat.sub_zero, ← hZ, Int.natCast_zero] at h1
        refine Ev.step (fun k => ?_) h1
        simp only [gimballaw30_LogRows.j1]
        rw [if_pos trivial, if_pos (by omega), if_pos (by omega), ← hp, hb, Option.bind_some, if_neg hbt, ← hZ, if_pos (show (256 : Nat) ≤ 70368744177664 from Nat.le_of_ble_eq_true rfl)]
    · refine Ev.step (f := fun _ => some true) (fun k => ?_) (Ev.now _)
      simp only [gimballaw30_LogRows.j1]
      rw [if_neg (by simpa using h20), wakes_now]
      rfl
theorem LogRows : gimballaw30_LogRows.Pure := by
  intro l ⟨hl, hw⟩
  exact (main_loop l hw (by unfold maxLen at hl; omega) l.length 0 (by omega)).rounds
end Go.Proofs.Ytbleapgklbohcaa.Pure
