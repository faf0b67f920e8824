/-
  The pure law of LogExact: records, heads, generations and pages are what the page says.
  No conditions.
-/
import Derived.Test.YtbleapgklbohcaaSpecLogExact
import Derived.Test.YtbleapgklbohcaaCrcM
import Derived.Laws.BitsAllLaws
namespace Go.Proofs.Ytbleapgklbohcaa.Pure
open Go.RowKit Go.Proofs.Ytbleapgklbohcaa Go.Proofs.Ytbleapgklbohcaa.PLogExact Go.Proofs.YtbleapgklbohcaaW.PrintWords Go.Proofs.YtbleapgklbohcaaW.PrintLast Go.Proofs.YtbleapgklbohcaaW.PrintMore
theorem w64 {x : Int} (h : -9223372036854775808 ≤ x) (h2 : x < 9223372036854775808) : wrap64 x = x := by
  unfold wrap64
  omega
theorem crcIt_front (n : Nat) (x : Int) : crcIt n (crcStep x) = crcIt (n + 1) x := by
  induction n with
  | zero => rfl
  | succ n ih => show crcStep (crcIt n (crcStep x)) = crcStep (crcIt (n + 1) x); rw [ih]
theorem ref_inner (l : List Int) (i : Int) (R : Int) (d : Nat) : ∀ (x j : Int), 0 ≤ j → j + d = 8 → Ev (fun k => gimbalref22_Sum.l0 k l (crcIt d x) (wrap64 (i + 1))) R → Ev (fun k => gimbalref22_Sum.l1 k l x i j) R := by
  induction d with
  | zero =>
    intro x j h0 hj h
    refine Ev.step (fun k => ?_) h
    simp only [gimbalref22_Sum.l1]
    rw [if_neg (by omega)]
    rfl
  | succ d ih =>
    intro x j h0 hj h
    have h' : Ev (fun k => gimbalref22_Sum.l0 k l (crcIt d (crcStep x)) (wrap64 (i + 1))) R := by rw [crcIt_front]; exact h
    refine Ev.step (fun k => ?_) (ih (crcStep x) (wrap64 (j + 1)) (by rw [w64 (by omega) (by omega)]; omega) (by rw [w64 (by omega) (by omega)]; omega) h')
    simp only [gimbalref22_Sum.l1]
    rw [if_pos (by omega)]
    unfold crcStep
    split <;> rfl
theorem ref_byte (s : BitVec 16) (y : Int) (h0 : 0 ≤ y) (h1 : y < 256) : crcIt 8 (Go.bits .xor .u16 ((s.toNat : Nat) : Int) (IntKind.u16.wrap ((IntKind.u16.wrap y) * 256))) = stepOf ((s.toNat : Nat) : Int) y := by
  have hs := s.isLt
  rw [stepOf_bv s y h0 h1, ← crcIt_bv, BitVec.toNat_xor]
  unfold YB
  rw [BitVec.toNat_ofNat, Nat.mod_eq_of_lt (show y.toNat * 256 < 2 ^ 16 by omega), ← u16_xor_nat _ _ hs (by omega)]
  rw [IntKind.wrap_u16, IntKind.wrap_u16]
  rw [show y % 65536 * 256 % 65536 = ((y.toNat * 256 : Nat) : Int) by omega]
theorem ref_outer (l : List Int) (hb : bytes l) (hl : l.length ≤ 9223372036854775806) (d : Nat) : ∀ i : Nat, i + d = l.length → Ev (fun k => gimbalref22_Sum.l0 k l (sumB l i) (i : Int)) (sumB l l.length) := by
  induction d with
  | zero =>
    intro i hi
    obtain rfl : i = l.length := by omega
    refine Ev.step (f := fun _ => some (sumB l l.length)) (fun k => ?_) (Ev.now _)
    simp only [gimbalref22_Sum.l0]
    rw [if_neg (by omega)]
  | succ d ih =>
    intro i hi
    have hy := bytes_rd hb i
    have h := ih (i + 1) (by omega)
    have h' : Ev (fun k => gimbalref22_Sum.l1 k l (Go.bits .xor .u16 (sumB l i) (IntKind.u16.wrap ((IntKind.u16.wrap (rd l i)) * 256))) i 0) (sumB l l.length) := by
      refine ref_inner l i _ 8 _ 0 (by omega) (by omega) ?_
      rw [w64 (by omega) (by omega), sumB_bv l hb i, ref_byte _ _ hy.1 hy.2, ← sumB_bv l hb i]
      exact h
    refine Ev.step (fun k => ?_) h'
    simp only [gimbalref22_Sum.l0]
    rw [if_pos (by omega), if_pos (by omega)]
/-- The page's sum is the table's. -/
theorem ref_sum (l : List Int) (hb : bytes l) (hl : l.length ≤ 9223372036854775806) : Ev (fun k => gimbalref22_Sum.f k l) (sumB l l.length) := ref_outer l hb hl l.length 0 (by omega)
theorem w64s (n : Nat) (h : n < 9223372036854775807) : wrap64 ((n : Int) + 1) = ((n + 1 : Nat) : Int) := by
  rw [w64 (by omega) (by omega)]
  omega
/-- A word's bytes, the highest first. -/
def wb (x : Int) : List Int := [x / 16777216 % 256, x / 65536 % 256, x / 256 % 256, x % 256]
def wbs (l : List Int) : Nat → List Int
  | 0 => []
  | k + 1 => wbs l k ++ wb (rd l k)
theorem wbs_length (l : List Int) (k : Nat) : (wbs l k).length = 4 * k := by
  induction k with
  | zero => rfl
  | succ k ih => simp [wbs, wb, ih]; omega
theorem wbs_bytes (l : List Int) (k : Nat) : bytes (wbs l k) := by
  induction k with
  | zero => intro y hy; simp [wbs] at hy
  | succ k ih =>
    intro y hy
    simp only [wbs, wb, List.mem_append, List.mem_cons, List.not_mem_nil, or_false] at hy
    rcases hy with h | h | h | h | h
    · exact ih y h
    all_goals (subst h; omega)
theorem sumB_pre (a b : List Int) (k : Nat) (hk : k ≤ a.length) : sumB (a ++ b) k = sumB a k := by
  induction k with
  | zero => rfl
  | succ k ih =>
    show stepOf (sumB (a ++ b) k) (rd (a ++ b) k) = stepOf (sumB a k) (rd a k)
    rw [ih (by omega)]
    unfold rd
    rw [Int.toNat_natCast, List.getD_eq_getElem?_getD, List.getD_eq_getElem?_getD, List.getElem?_append_left (by omega)]
theorem rd_app (a b : List Int) (j : Nat) : rd (a ++ b) ((a.length + j : Nat) : Int) = rd b j := by
  unfold rd
  rw [Int.toNat_natCast, Int.toNat_natCast, List.getD_eq_getElem?_getD, List.getD_eq_getElem?_getD, List.getElem?_append_right (by omega), Nat.add_sub_cancel_left]
theorem sumW_B (l : List Int) (k : Nat) : sumW l k = sumB (wbs l k) (4 * k) := by
  induction k with
  | zero => rfl
  | succ k ih =>
    have hl := wbs_length l k
    show inn4 (sumW l k) (rd l k) 0 = _
    rw [show 4 * (k + 1) = 4 * k + 1 + 1 + 1 + 1 by omega]
    show _ = stepOf (stepOf (stepOf (stepOf (sumB (wbs l (k + 1)) (4 * k)) (rd (wbs l (k + 1)) ((4 * k : Nat) : Int))) (rd (wbs l (k + 1)) ((4 * k + 1 : Nat) : Int))) (rd (wbs l (k + 1)) ((4 * k + 1 + 1 : Nat) : Int))) (rd (wbs l (k + 1)) ((4 * k + 1 + 1 + 1 : Nat) : Int))
    have e0 := rd_app (wbs l k) (wb (rd l k)) 0
    have e1 := rd_app (wbs l k) (wb (rd l k)) 1
    have e2 := rd_app (wbs l k) (wb (rd l k)) 2
    have e3 := rd_app (wbs l k) (wb (rd l k)) 3
    rw [hl] at e0 e1 e2 e3
    show _ = stepOf (stepOf (stepOf (stepOf (sumB (wbs l k ++ wb (rd l k)) (4 * k)) (rd (wbs l k ++ wb (rd l k)) ((4 * k : Nat) : Int))) (rd (wbs l k ++ wb (rd l k)) ((4 * k + 1 : Nat) : Int))) (rd (wbs l k ++ wb (rd l k)) ((4 * k + 1 + 1 : Nat) : Int))) (rd (wbs l k ++ wb (rd l k)) ((4 * k + 1 + 1 + 1 : Nat) : Int))
    rw [sumB_pre _ _ _ (by omega), ← ih]
    rw [show ((4 * k : Nat) : Int) = ((4 * k + 0 : Nat) : Int) from rfl, e0, e1, show 4 * k + 1 + 1 = 4 * k + 2 from rfl, e2, show 4 * k + 2 + 1 = 4 * k + 3 from rfl, e3]
    rfl
theorem refw_loop (l : List Int) (hl : l.length ≤ 100000) (d : Nat) : ∀ i : Nat, i + d = l.length → Ev (fun k => gimbalref22_Words.l0 k l (wbs l i) (i : Int)) (sumW l l.length) := by
  induction d with
  | zero =>
    intro i hi
    obtain rfl : i = l.length := by omega
    have hwl := wbs_length l l.length
    have hs := ref_sum (wbs l l.length) (wbs_bytes l _) (by omega)
    rw [hwl, ← sumW_B] at hs
    refine Ev.step (fun k => ?_) (Ev.bind (f := fun _ t => some t) hs (Ev.now _))
    simp only [gimbalref22_Words.l0]
    rw [if_neg (by omega)]
  | succ d ih =>
    intro i hi
    have hwl := wbs_length l i
    refine Ev.step (fun k => ?_) (ih (i + 1) (by omega))
    simp only [gimbalref22_Words.l0, Option.bind_some]
    rw [if_pos (by omega), if_pos (by omega), if_pos (by rw [hwl]; simp; omega), w64 (by omega) (by omega)]
    rfl
theorem ref_words (l : List Int) (hl : l.length ≤ 100000) : Ev (fun k => gimbalref22_Words.f k l) (sumW l l.length) := refw_loop l hl l.length 0 (by omega)
theorem eqBytes_loop (l m : List Int) (hl : l.length < 9223372036854775807) (he : l = m) (d : Nat) : ∀ j : Nat, j + d = l.length → Ev (fun k => gimbalref0_EqBytes.l0 k l m (j : Int)) true := by
  induction d with
  | zero =>
    intro j hj
    refine Ev.step (f := fun _ => some true) (fun k => ?_) (Ev.now _)
    simp only [gimbalref0_EqBytes.l0]
    rw [if_neg (by omega)]
  | succ d ih =>
    intro j hj
    have hm : m.length = l.length := by rw [he]
    refine Ev.step (fun k => ?_) (ih (j + 1) (by omega))
    simp only [gimbalref0_EqBytes.l0]
    rw [if_pos (by omega), if_pos (by omega), if_pos (by omega), if_pos (by rw [he]), w64s j (by omega)]
theorem eqBytes_same (l m : List Int) (hl : l.length < 9223372036854775807) (he : l = m) : Ev (fun k => gimbalref0_EqBytes.f k l m) true := by
  refine Ev.congr (f := fun k => gimbalref0_EqBytes.l0 k l m 0) (fun k => ?_) (eqBytes_loop l m hl he l.length 0 (by omega))
  simp only [gimbalref0_EqBytes.f]
  rw [if_pos (by rw [he])]
theorem and16 (x : Int) (h0 : 0 ≤ x) (h1 : x < 4294967296) : Go.bits .and .u32 x 65535 = x % 65536 := by
  rw [u32_and x 65535 h0 h1 (by decide) (by decide)]
  have e : x.toNat &&& (65535 : Int).toNat = x.toNat % 65536 := by
    have := Nat.and_two_pow_sub_one_eq_mod x.toNat 16
    exact this
  rw [e]
  omega
theorem and8 (x : Int) (h0 : 0 ≤ x) (h1 : x < 4294967296) : Go.bits .and .u32 x 255 = x % 256 := by
  rw [u32_and x 255 h0 h1 (by decide) (by decide)]
  have e : x.toNat &&& (255 : Int).toNat = x.toNat % 256 := by
    have := Nat.and_two_pow_sub_one_eq_mod x.toNat 8
    exact this
  rw [e]
  omega
theorem andHigh (x : Int) (h0 : 0 ≤ x) (h1 : x < 4294967296) : Go.bits .and .u32 x 4278190080 = x / 16777216 * 16777216 := by
  rw [u32_and x 4278190080 h0 h1 (by decide) (by decide)]
  have e : x.toNat &&& (4278190080 : Int).toNat = x.toNat / 16777216 * 16777216 := by
    have hx : x.toNat < 2 ^ 32 := by omega
    generalize x.toNat = n at hx
    have e1 : (4278190080 : Int).toNat = (2 ^ 8 - 1) * 2 ^ 24 := by decide
    rw [e1, show (16777216 : Nat) = 2 ^ 24 from rfl]
    apply Nat.eq_of_testBit_eq
    intro i
    rw [Nat.testBit_and, Nat.testBit_mul_two_pow, Nat.testBit_mul_two_pow, Nat.testBit_div_two_pow, Nat.testBit_two_pow_sub_one]
    by_cases h : 24 ≤ i
    · rw [show i - 24 + 24 = i by omega]
      by_cases h2 : i - 24 < 8
      · simp [h, h2]
      · have : n.testBit i = false := Nat.testBit_lt_two_pow (Nat.lt_of_lt_of_le hx (Nat.pow_le_pow_right (by decide) (by omega)))
        simp [this]
    · simp [h]
  rw [e]
  omega
theorem notHigh (x : Int) (h0 : 0 ≤ x) (h1 : x < 4294967296) : Go.bits .andNot .u32 x 4278190080 = x % 16777216 := by
  rw [u32_andNot x 4278190080 h0 h1 (by decide) (by decide)]
  have e : x.toNat &&& (4294967295 - (4278190080 : Int).toNat) = x.toNat % 16777216 := by
    have := Nat.and_two_pow_sub_one_eq_mod x.toNat 24
    exact this
  rw [e]
  omega
theorem orByte (x b : Int) (h0 : 0 ≤ x) (h1 : x < 16777216) (h2 : 0 ≤ b) (h3 : b < 256) : Go.bits .or .u32 ((x * 256) % 4294967296) b = x * 256 + b := by
  have e : (x * 256) % 4294967296 = x * 256 := by omega
  rw [e, u32_or (x * 256) b (by omega) (by omega) h2 (by omega), nat_join 8 _ _ (by omega) (by omega)]
  omega
theorem rdI_some (l : List Int) (i : Nat) (h : i < l.length) : rd l (i : Int) = l[i] := by
  unfold rd
  rw [Int.toNat_natCast, List.getD_eq_getElem?_getD, List.getElem?_eq_getElem h]
  rfl
theorem stepOf_range (s y : Int) : 0 ≤ stepOf s y ∧ stepOf s y < 65536 := by
  unfold stepOf Go.bits
  rw [IntKind.wrap_u16]
  omega
theorem sumW_range (l : List Int) (k : Nat) : 0 ≤ sumW l k ∧ sumW l k < 65536 := by
  cases k with
  | zero =>
    show (0 : Int) ≤ 65535 ∧ (65535 : Int) < 65536
    decide
  | succ k =>
    show 0 ≤ inn4 (sumW l k) (rd l k) 0 ∧ inn4 (sumW l k) (rd l k) 0 < 65536
    exact stepOf_range _ _
/-- A byte of a row, or what fills up. -/
def bD (v : List Int) (j : Nat) : Int := if j < v.length then rd v (j : Int) else 255
theorem bD_range {v : List Int} (hv : ∀ y ∈ v, 0 ≤ y ∧ y < 256) (j : Nat) : 0 ≤ bD v j ∧ bD v j < 256 := by
  unfold bD
  split
  · next h =>
    rw [rdI_some v j h]
    exact hv _ (List.getElem_mem h)
  · omega
def wordD (v : List Int) (q : Nat) : Int := ((bD v (4 * q) * 256 + bD v (4 * q + 1)) * 256 + bD v (4 * q + 2)) * 256 + bD v (4 * q + 3)
def headD (key : Int) (n : Nat) : Int := 1375731712 + key * 256 + n
def bodyD (key : Int) (v : List Int) (q : Nat) : List Int := headD key v.length :: (List.range q).map (wordD v)
def endD (B : List Int) : Int := (1124073472 + sumW B B.length % 4294967296) % 4294967296
def packD (key : Int) (v : List Int) : List Int := bodyD key v ((v.length + 3) / 4) ++ [endD (bodyD key v ((v.length + 3) / 4))]
theorem bodyD_len (key : Int) (v : List Int) (q : Nat) : (bodyD key v q).length = q + 1 := by
  unfold bodyD
  rw [List.length_cons, List.length_map, List.length_range]
theorem packD_len (key : Int) (v : List Int) : (packD key v).length = (v.length + 3) / 4 + 2 := by
  unfold packD
  rw [List.length_append, bodyD_len, List.length_singleton]
theorem pack_one (v : List Int) (hv : ∀ y ∈ v, 0 ≤ y ∧ y < 256) (x4 : List Int) (i j : Nat) (hi : i < 100) (hj : j < i + 4) (_hn : v.length ≤ 24) (w key : Int) (w0 : 0 ≤ w) (w1 : w < 16777216) (k : Nat) :
    log_Pack.l1 (k + 1) x4 (i : Int) w (j : Int) key v = log_Pack.l1 k x4 (i : Int) (w * 256 + bD v j) ((j + 1 : Nat) : Int) key v := by
  have hb := bD_range hv j
  have hw : wrap64 ((i : Int) + 4) = (i : Int) + 4 := w64 (by omega) (by omega)
  have hw2 : wrap64 ((j : Int) + 1) = ((j + 1 : Nat) : Int) := w64s j (by omega)
  simp only [log_Pack.l1]
  rw [hw, if_pos (by omega), hw2]
  by_cases h : j < v.length
  · have e : bD v j = rd v (j : Int) := by unfold bD; rw [if_pos h]
    rw [if_pos (by omega), if_pos (by omega)]
    rw [e] at hb ⊢
    have e2 : (rd v (j : Int)) % 4294967296 = rd v (j : Int) := by omega
    rw [e2, orByte w _ w0 w1 hb.1 hb.2]
  · have e : bD v j = 255 := by unfold bD; rw [if_neg h]
    rw [if_neg (by omega), orByte w 255 w0 w1 (by decide) (by decide), e]
theorem pack_loop (v : List Int) (hv : ∀ y ∈ v, 0 ≤ y ∧ y < 256) (hn : v.length ≤ 24) (key : Int) (d : Nat) : ∀ q : Nat, q + d = (v.length + 3) / 4 →
    Ev (fun k => log_Pack.l0 k (bodyD key v q) ((4 * q : Nat) : Int) key v) (packD key v, 0) := by
  induction d with
  | zero =>
    intro q hq
    have e : q = (v.length + 3) / 4 := by omega
    refine Ev.step (f := fun _ => some (packD key v, 0)) (fun k => ?_) (Ev.now _)
    simp only [log_Pack.l0]
    rw [if_neg (by omega)]
    simp only [crc_Words.f, Option.bind_some]
    rw [if_pos (by rw [bodyD_len]; omega), e]
    rfl
  | succ d ih =>
    intro q hq
    have hnext := ih (q + 1) (by omega)
    have b0 := bD_range hv (4 * q)
    have b1 := bD_range hv (4 * q + 1)
    have b2 := bD_range hv (4 * q + 1 + 1)
    have b3 := bD_range hv (4 * q + 1 + 1 + 1)
    have hbody : bodyD key v (q + 1) = bodyD key v q ++ [wordD v q] := by
      unfold bodyD
      rw [List.range_succ, List.map_append]
      rfl
    refine Ev.step (f := fun k => log_Pack.l1 k (bodyD key v q) ((4 * q : Nat) : Int) 0 ((4 * q : Nat) : Int) key v) (fun k => ?_) ?_
    · simp only [log_Pack.l0]
      rw [if_pos (by omega)]
    refine Ev.step (fun k => pack_one v hv _ (4 * q) (4 * q) (by omega) (by omega) hn 0 key (by omega) (by omega) k) ?_
    refine Ev.step (fun k => pack_one v hv _ (4 * q) (4 * q + 1) (by omega) (by omega) hn _ key (by omega) (by omega) k) ?_
    refine Ev.step (fun k => pack_one v hv _ (4 * q) (4 * q + 1 + 1) (by omega) (by omega) hn _ key (by omega) (by omega) k) ?_
    refine Ev.step (fun k => pack_one v hv _ (4 * q) (4 * q + 1 + 1 + 1) (by omega) (by omega) hn _ key (by omega) (by omega) k) ?_
    refine Ev.step (fun k => ?_) hnext
    have hw : wrap64 (((4 * q : Nat) : Int) + 4) = ((4 * (q + 1) : Nat) : Int) := by rw [w64 (by omega) (by omega)]; omega
    simp only [log_Pack.l1]
    rw [if_neg (by rw [hw]; omega), if_pos (by rw [bodyD_len]; omega), hw, hbody]
    unfold wordD
    rw [Int.zero_mul, Int.zero_add]
theorem pack_ev (v : List Int) (hv : ∀ y ∈ v, 0 ≤ y ∧ y < 256) (hn : v.length ≤ 24) (key : Int) (k0 : 0 ≤ key) (k1 : key < 16) : Ev (fun k => log_Pack.f k key v) (packD key v, 0) := by
  have h := pack_loop v hv hn key ((v.length + 3) / 4) 0 (by omega)
  refine Ev.congr (fun k => ?_) h
  unfold log_Pack.f log_Good.f
  rw [if_pos (by omega), if_pos k1, Option.bind_some, decide_eq_true (show (v.length : Int) ≤ 24 by omega), if_pos rfl]
  have e : ((1375731712 + ((key % 4294967296) * 256 % 4294967296)) % 4294967296 + ((v.length : Int) % 4294967296)) % 4294967296 = headD key v.length := by
    unfold headD
    omega
  rw [e]
  rfl
abbrev EntT := S25
/-- The page's own record. -/
theorem rpack_one (v : List Int) (hv : ∀ y ∈ v, 0 ≤ y ∧ y < 256) (x3 : List Int) (i j : Nat) (hi : i < 100) (hj : j < 4) (_hn : v.length ≤ 24) (w key : Int) (w0 : 0 ≤ w) (w1 : w < 16777216) (k : Nat) :
    gimbalref29_Pack.l1 (k + 1) x3 (i : Int) w (j : Int) key v = gimbalref29_Pack.l1 k x3 (i : Int) (w * 256 + bD v (i + j)) ((j + 1 : Nat) : Int) key v := by
  have hb := bD_range hv (i + j)
  have hw : wrap64 ((i : Int) + (j : Int)) = ((i + j : Nat) : Int) := by rw [w64 (by omega) (by omega)]; omega
  have hw2 : wrap64 ((j : Int) + 1) = ((j + 1 : Nat) : Int) := w64s j (by omega)
  simp only [gimbalref29_Pack.l1]
  rw [hw, if_pos (by omega), hw2]
  by_cases h : i + j < v.length
  · have e : bD v (i + j) = rd v ((i + j : Nat) : Int) := by unfold bD; rw [if_pos h]
    rw [if_pos (by omega), if_pos (by omega)]
    rw [e] at hb ⊢
    have e2 : (rd v ((i + j : Nat) : Int)) % 4294967296 = rd v ((i + j : Nat) : Int) := by omega
    rw [e2, orByte w _ w0 w1 hb.1 hb.2]
  · have e : bD v (i + j) = 255 := by unfold bD; rw [if_neg h]
    rw [if_neg (by omega), orByte w 255 w0 w1 (by decide) (by decide), e]
theorem rpack_loop (v : List Int) (hv : ∀ y ∈ v, 0 ≤ y ∧ y < 256) (hn : v.length ≤ 24) (key : Int) (d : Nat) : ∀ q : Nat, q + d = (v.length + 3) / 4 →
    Ev (fun k => gimbalref29_Pack.l0 k (bodyD key v q) ((4 * q : Nat) : Int) key v) (packD key v) := by
  induction d with
  | zero =>
    intro q hq
    have e : q = (v.length + 3) / 4 := by omega
    refine Ev.step (f := fun k => (gimbalref22_Words.f k (bodyD key v q)).bind fun t144 => (if (bodyD key v q).length < 35184372088832 then (some (bodyD key v q ++ [(1124073472 + ((t144) % 4294967296)) % 4294967296])) else (none))) (fun k => ?_) (Ev.bind (ref_words (bodyD key v q) (by rw [bodyD_len]; omega)) (Ev.congr (f := fun _ => some (packD key v)) (fun k => ?_) (Ev.now _)))
    · simp only [gimbalref29_Pack.l0]
      rw [if_neg (by omega)]
    · rw [if_pos (by rw [bodyD_len]; omega), e]
      rfl
  | succ d ih =>
    intro q hq
    have hnext := ih (q + 1) (by omega)
    have b0 := bD_range hv (4 * q + 0)
    have b1 := bD_range hv (4 * q + (0 + 1))
    have b2 := bD_range hv (4 * q + (0 + 1 + 1))
    have b3 := bD_range hv (4 * q + (0 + 1 + 1 + 1))
    have hbody : bodyD key v (q + 1) = bodyD key v q ++ [wordD v q] := by
      unfold bodyD
      rw [List.range_succ, List.map_append]
      rfl
    refine Ev.step (f := fun k => gimbalref29_Pack.l1 k (bodyD key v q) ((4 * q : Nat) : Int) 0 ((0 : Nat) : Int) key v) (fun k => ?_) ?_
    · simp only [gimbalref29_Pack.l0]
      rw [if_pos (by omega)]
      rfl
    refine Ev.step (fun k => rpack_one v hv _ (4 * q) 0 (by omega) (by omega) hn 0 key (by omega) (by omega) k) ?_
    refine Ev.step (fun k => rpack_one v hv _ (4 * q) (0 + 1) (by omega) (by omega) hn _ key (by omega) (by omega) k) ?_
    refine Ev.step (fun k => rpack_one v hv _ (4 * q) (0 + 1 + 1) (by omega) (by omega) hn _ key (by omega) (by omega) k) ?_
    refine Ev.step (fun k => rpack_one v hv _ (4 * q) (0 + 1 + 1 + 1) (by omega) (by omega) hn _ key (by omega) (by omega) k) ?_
    refine Ev.step (fun k => ?_) hnext
    have hw : wrap64 (((4 * q : Nat) : Int) + 4) = ((4 * (q + 1) : Nat) : Int) := by rw [w64 (by omega) (by omega)]; omega
    simp only [gimbalref29_Pack.l1]
    rw [if_neg (by omega), if_pos (by rw [bodyD_len]; omega), hw, hbody]
    unfold wordD
    rw [Int.zero_mul, Int.zero_add]
    rfl
theorem rpack_ev (v : List Int) (hv : ∀ y ∈ v, 0 ≤ y ∧ y < 256) (hn : v.length ≤ 24) (key : Int) (k0 : 0 ≤ key) (k1 : key < 16) : Ev (fun k => gimbalref29_Pack.f k key v) (packD key v) := by
  have h := rpack_loop v hv hn key ((v.length + 3) / 4) 0 (by omega)
  refine Ev.congr (fun k => ?_) h
  unfold gimbalref29_Pack.f
  have e : (1375731712 + ((wrap64 ((wrap64 (256 * key)) + (v.length : Int))) % 4294967296)) % 4294967296 = headD key v.length := by
    rw [w64 (x := 256 * key) (by omega) (by omega), w64 (by omega) (by omega)]
    unfold headD
    omega
  rw [e]
  rfl
def pageOk (p : List Int) : Prop := p.length = 256 ∧ ∀ x ∈ p, 0 ≤ x ∧ x < 4294967296
theorem page_rd {p : List Int} (h : pageOk p) (i : Int) (h0 : 0 ≤ i) (h1 : i < 256) : 0 ≤ rd p i ∧ rd p i < 4294967296 := by
  obtain ⟨n, rfl⟩ := Int.eq_ofNat_of_zero_le h0
  have hn : n < p.length := by have := h.1; omega
  rw [rdI_some p n hn]
  exact h.2 _ (List.getElem_mem hn)
theorem key_of (f : Int) (h0 : 0 ≤ f) (h1 : f < 4294967296) : Lg.keyOf f = f / 256 % 65536 := by
  unfold Lg.keyOf
  exact and16 _ (by omega) (by omega)
theorem n_of (f : Int) (h0 : 0 ≤ f) (h1 : f < 4294967296) : Lg.nOf f = f % 256 := by
  unfold Lg.nOf
  exact and8 _ h0 h1
theorem size_rec (f : Int) (h0 : 0 ≤ f) (h1 : f < 4294967296) : gimbalref29_size.f f = some (if Lg.isRec f = true then Lg.mOf f else 0) := by
  have hk := key_of f h0 h1
  have hn := n_of f h0 h1
  have ha := andHigh f h0 h1
  unfold gimbalref29_size.f
  have e1 : Go.bits .and .u32 (f / 256) 65535 = f / 256 % 65536 := and16 _ (by omega) (by omega)
  have e2 : Go.bits .and .u32 f 255 = f % 256 := and8 _ h0 h1
  rw [e1, e2, w64 (x := f / 256 % 65536) (by omega) (by omega), w64 (x := f % 256) (by omega) (by omega)]
  unfold Lg.isRec Lg.mOf
  rw [hk, hn, ha]
  by_cases c1 : f / 16777216 = 82
  · rw [if_pos c1]
    by_cases c2 : f / 256 % 65536 ≥ 16
    · rw [if_pos c2, decide_eq_false (by omega), if_neg (by simp)]
    · rw [if_neg c2]
      by_cases c3 : f % 256 > 24
      · rw [if_pos c3, decide_eq_false (by omega), if_neg (by simp)]
      · rw [if_neg c3, decide_eq_true (by omega), if_pos rfl, w64 (x := f % 256 + 3) (by omega) (by omega), Int.tdiv_eq_ediv_of_nonneg (by omega), w64 (x := (f % 256 + 3) / 4) (by omega) (by omega), w64 (by omega) (by omega)]
        congr 1
        omega
  · rw [if_neg c1, decide_eq_false (by omega), if_neg (by simp)]
theorem rd_part (l : List Int) (i m j : Nat) (hj : j < m) (hm : i + m ≤ l.length) : rd ((l.take (i + m)).drop i) (j : Int) = rd l ((i + j : Nat) : Int) := by
  rw [rdI_some _ _ (by rw [List.length_drop, List.length_take]; omega), rdI_some _ _ (by omega), List.getElem_drop, List.getElem_take]
theorem rv_nums (i j : Nat) (hi : i ≤ 300) (hj : j < 25) : Int.tdiv (j : Int) 4 = ((j / 4 : Nat) : Int) ∧ Int.tmod (j : Int) 4 = ((j % 4 : Nat) : Int) ∧ wrap64 ((j / 4 : Nat) : Int) = ((j / 4 : Nat) : Int) ∧ wrap64 ((i : Int) + 1) = ((i + 1 : Nat) : Int) ∧
    wrap64 (((i + 1 : Nat) : Int) + ((j / 4 : Nat) : Int)) = ((i + (1 + j / 4) : Nat) : Int) ∧ wrap64 (8 * ((j % 4 : Nat) : Int)) = ((8 * (j % 4) : Nat) : Int) ∧ wrap64 (24 - ((8 * (j % 4) : Nat) : Int)) = ((24 - 8 * (j % 4) : Nat) : Int) := by
  refine ⟨?_, ?_, w64 (by omega) (by omega), w64s i (by omega), ?_, ?_, ?_⟩
  · rw [Int.tdiv_eq_ediv_of_nonneg (by omega)]; omega
  · rw [Int.tmod_eq_emod_of_nonneg (by omega)]; omega
  · rw [w64 (by omega) (by omega)]; omega
  · rw [w64 (by omega) (by omega)]; omega
  · rw [w64 (by omega) (by omega)]; omega
/-- The bytes of a record, one by one. -/
theorem rvals_loop (p : List Int) (hp : pageOk p) (i m : Nat) (n : Nat) (hn : n ≤ 24) (hm : m = (n + 3) / 4 + 2) (hl : i + m ≤ 256) (hN : rd p (i : Int) % 256 = n) (x4 : List EntT) (hx : x4.length < 1000) (key : Int) (R : Option (List EntT × Int)) (d : Nat) : ∀ j : Nat, j + d = n →
    (∃ K, ∀ k, K ≤ k → gimbalref29_Scan.l0 k p (x4 ++ [(⟨key, Lg.vals ((p.take (i + m)).drop i) n⟩ : EntT)]) ((i + m : Nat) : Int) = R) →
    ∃ K, ∀ k, K ≤ k → gimbalref29_Scan.l1 k p x4 (i : Int) (m : Int) (j : Int) key (Lg.vals ((p.take (i + m)).drop i) j) = R := by
  have hb := page_rd hp (i : Int) (by omega) (by omega)
  have hp1 := hp.1
  have e2 : Go.bits .and .u32 (rd p (i : Int)) 255 = n := by rw [and8 _ hb.1 hb.2]; exact hN
  have hw : wrap64 (n : Int) = n := w64 (by omega) (by omega)
  induction d with
  | zero =>
    intro j hj h
    obtain rfl : j = n := by omega
    obtain ⟨K, hK⟩ := h
    refine ⟨K + 1, fun k hk => ?_⟩
    obtain ⟨k, rfl⟩ : ∃ q, k = q + 1 := ⟨k - 1, by omega⟩
    simp only [gimbalref29_Scan.l1]
    rw [e2, hw, if_pos (by omega), if_pos (by omega), if_neg (by omega), if_pos (by omega), w64 (x := (i : Int) + (m : Int)) (by omega) (by omega)]
    exact hK k (by omega)
  | succ d ih =>
    intro j hj h
    obtain ⟨K, hK⟩ := ih (j + 1) (by omega) h
    refine ⟨K + 1, fun k hk => ?_⟩
    obtain ⟨k, rfl⟩ : ∃ q, k = q + 1 := ⟨k - 1, by omega⟩
    obtain ⟨hj1, hj2, a1, a2, a3, a4, a5⟩ := rv_nums i j (by omega) (by omega)
    have g1 : (0 : Int) ≤ ((i + (1 + j / 4) : Nat) : Int) := Int.natCast_nonneg _
    have g2 : ((i + (1 + j / 4) : Nat) : Int) < (p.length : Int) := by clear a1 a2 a3 a4 a5 hj1 hj2 hw; omega
    have g3 : (0 : Int) ≤ ((24 - 8 * (j % 4) : Nat) : Int) := Int.natCast_nonneg _
    have g4 : (j : Int) < (n : Int) := by clear a1 a2 a3 a4 a5 hj1 hj2 hw; omega
    have g5 : (0 : Int) ≤ (i : Int) := Int.natCast_nonneg _
    have g6 : (i : Int) < (p.length : Int) := by clear a1 a2 a3 a4 a5 hj1 hj2 hw; omega
    have g7 : (Lg.vals ((p.take (i + m)).drop i) j).length < 140737488355328 := by clear a1 a2 a3 a4 a5 hj1 hj2 hw; rw [Lg.vals_len]; omega
    have hs := w64s j (by clear a1 a2 a3 a4 a5 hj1 hj2 hw; omega)
    have hv : (shr .u32 (rd p ((i + (1 + j / 4) : Nat) : Int)) ((24 - 8 * (j % 4) : Nat) : Int)) % 256 = Lg.byteAt ((p.take (i + m)).drop i) j := by
      unfold shr Lg.byteAt
      rw [rd_part p i m (1 + j / 4) (by clear a1 a2 a3 a4 a5 hj1 hj2 hw hs; omega) (by clear a1 a2 a3 a4 a5 hj1 hj2 hw hs; omega), Int.toNat_natCast, show min (24 - 8 * (j % 4)) IntKind.u32.bits = 24 - 8 * (j % 4) from Nat.min_eq_left (by show 24 - 8 * (j % 4) ≤ 32; exact Nat.le_trans (Nat.sub_le _ _) (by decide))]
    simp only [gimbalref29_Scan.l1]
    rw [e2, hw, if_pos g5, if_pos g6, if_pos g4, hj1, hj2, a1, a2, a3, a4, a5, if_pos g1, if_pos g2, if_pos g3, if_pos g7, hv, ← Lg.vals_succ, hs]
    exact hK k (by clear a1 a2 a3 a4 a5 hj1 hj2 hw hs; omega)
theorem scan_len (p : List Int) (k : Nat) : ∀ (es : List (Int × List Int)) (i : Int), (∀ e ∈ es, e.2.length ≤ 24) → (∀ e ∈ (Lg.scanF p k es i).1, e.2.length ≤ 24) ∧ (Lg.scanF p k es i).1.length ≤ es.length + k := by
  induction k with
  | zero => intro es i h; exact ⟨h, Nat.le_refl _⟩
  | succ k ih =>
    intro es i h
    have hs : (∀ e ∈ es, e.2.length ≤ 24) ∧ es.length ≤ es.length + (k + 1) := ⟨h, by omega⟩
    unfold Lg.scanF
    split
    · split
      · exact hs
      · split
        · next hr =>
          split
          · split
            · have := ih (es ++ [Lg.entryAt p i]) (i + Lg.mOf (rd p i)) (fun e he => by
                rcases List.mem_append.1 he with he | he
                · exact h e he
                · rw [List.mem_singleton.1 he]
                  unfold Lg.entryAt
                  have h3 := (Lg.isRec_iff hr).2.2
                  rw [Lg.vals_len]
                  omega)
              exact ⟨this.1, Nat.le_trans this.2 (by rw [List.length_append, List.length_singleton]; omega)⟩
            · have := ih es (i + Lg.mOf (rd p i)) h
              exact ⟨this.1, Nat.le_trans this.2 (by omega)⟩
          · exact hs
        · exact hs
    · exact hs
/-- The page's own scan. -/
theorem rscan (p : List Int) (hp : pageOk p) (F : Nat) : ∀ (es : List (Int × List Int)) (i : Nat), 1 ≤ i → i ≤ 256 → 256 < i + F → es.length ≤ i →
    Ev (fun k => gimbalref29_Scan.l0 k p (es.map logMk) (i : Int)) ((Lg.scanF p F es (i : Int)).1.map logMk, (Lg.scanF p F es (i : Int)).2) := by
  induction F with
  | zero => intro es i h1 h2 h3; omega
  | succ F ih =>
    intro es i h1 h2 h3 h4
    have hp1 := hp.1
    by_cases hlt : i < 256
    · have hb := page_rd hp (i : Int) (by omega) (by omega)
      by_cases hff : rd p (i : Int) = 4294967295
      · refine Ev.step (f := fun _ => some (es.map logMk, (i : Int))) (fun k => ?_) ?_
        · simp only [gimbalref29_Scan.l0]
          rw [if_pos (by omega), if_pos (by omega), if_pos (by omega), if_pos hff]
        · rw [logStop p (F + 1) es _ (.inr hff)]
          exact Ev.now _
      · have hsz := size_rec _ hb.1 hb.2
        by_cases hrec : Lg.isRec (rd p (i : Int)) = true
        · rw [if_pos hrec] at hsz
          have hm := Lg.mOf_le hrec
          obtain ⟨m, hmm⟩ : ∃ m : Nat, Lg.mOf (rd p (i : Int)) = (m : Int) := ⟨(Lg.mOf (rd p (i : Int))).toNat, by omega⟩
          have hw1 : wrap64 ((i : Int) + (m : Int)) = ((i + m : Nat) : Int) := by rw [w64 (by omega) (by omega)]; omega
          rw [hmm] at hsz
          by_cases hfit : i + m ≤ 256
          · have hw2 : wrap64 (((i + m : Nat) : Int) - 1) = ((i + m - 1 : Nat) : Int) := by rw [w64 (by omega) (by omega)]; omega
            have hN := n_of _ hb.1 hb.2
            have hK := key_of _ hb.1 hb.2
            have hkr := (Lg.isRec_iff hrec).2.1
            have hnr := (Lg.isRec_iff hrec).2.2
            obtain ⟨n, hn⟩ : ∃ n : Nat, Lg.nOf (rd p (i : Int)) = (n : Int) := ⟨(Lg.nOf (rd p (i : Int))).toNat, by rw [hN]; omega⟩
            have hmn : m = (n + 3) / 4 + 2 := by
              have : Lg.mOf (rd p (i : Int)) = (Lg.nOf (rd p (i : Int)) + 3) / 4 + 2 := rfl
              rw [hmm, hn] at this
              omega
            have hR : Lg.recOf p (i : Int) = (p.take (i + m)).drop i := by
              unfold Lg.recOf
              rw [hmm, show ((i : Int) + (m : Int)).toNat = i + m by omega, Int.toNat_natCast]
            have hlast : (Lg.nOf (rd p (i : Int)) + 3) / 4 + 1 = ((m - 1 : Nat) : Int) := by rw [hn]; omega
            have htake : ((p.take (i + m)).drop i).take (m - 1) = (p.take (i + m - 1)).drop i := by
              rw [List.take_drop, List.take_take, show min (i + (m - 1)) (i + m) = i + m - 1 by omega]
            have hright : Lg.rightAt p (i : Int) = (rd p ((i + m - 1 : Nat) : Int) == (1124073472 + sumW ((p.take (i + m - 1)).drop i) ((p.take (i + m - 1)).drop i).length % 4294967296) % 4294967296) := by
              unfold Lg.rightAt Lg.sumOk
              rw [hR, hlast, Int.toNat_natCast, htake, rd_part p i m (m - 1) (by omega) (by omega), show i + (m - 1) = i + m - 1 by omega]
            have hval : Lg.entryAt p (i : Int) = (Lg.keyOf (rd p (i : Int)), Lg.vals ((p.take (i + m)).drop i) n) := by
              unfold Lg.entryAt
              rw [hR, hn, Int.toNat_natCast]
            rw [logYes p F es _ (by omega) hff hrec (by omega)]
            have step : ∀ RR, Ev (fun k => (gimbalref22_Words.f k ((p.take (i + m - 1)).drop i)).bind fun t169 => (if (rd p ((i + m - 1 : Nat) : Int)) = ((1124073472 + ((t169) % 4294967296)) % 4294967296) then (if (i : Int) < (p.length : Int) then (gimbalref29_Scan.l1 k p (es.map logMk) (i : Int) (m : Int) 0 (Lg.keyOf (rd p (i : Int))) ([] : List Int)) else (none)) else (gimbalref29_Scan.l0 k p (es.map logMk) ((i + m : Nat) : Int)))) RR → Ev (fun k => gimbalref29_Scan.l0 k p (es.map logMk) (i : Int)) RR := by
              intro RR h
              have hkey : wrap64 (Go.bits .and .u32 ((rd p (i : Int)) / 256) 255) = Lg.keyOf (rd p (i : Int)) := by
                rw [and8 _ (by omega) (by omega), hK, w64 (by omega) (by omega)]
                rw [hK] at hkr
                omega
              refine Ev.step (f := fun k => gimbalref29_Scan.j1 k p (es.map logMk) (i : Int) (m : Int) false) (fun k => ?_) (Ev.step (fun k => ?_) h)
              · simp only [gimbalref29_Scan.l0]
                rw [if_pos (by omega), if_pos (by omega), if_pos (by omega), if_neg hff, hsz, Option.bind_some, if_neg (by omega), hw1, decide_eq_false (by omega)]
              · simp only [gimbalref29_Scan.j1]
                rw [if_neg (by simp), hw1, hw2, if_pos (by omega), if_pos (by omega), if_pos (by omega), if_pos (by omega), if_pos (by omega), Int.toNat_natCast, Int.toNat_natCast, hkey]
            refine step _ (Ev.bind (ref_words _ (by rw [List.length_drop, List.length_take]; omega)) ?_)
            by_cases hr : rd p ((i + m - 1 : Nat) : Int) = (1124073472 + sumW ((p.take (i + m - 1)).drop i) ((p.take (i + m - 1)).drop i).length % 4294967296) % 4294967296
            · rw [if_pos (by rw [hright]; exact beq_iff_eq.mpr hr), hmm]
              have h5 := ih (es ++ [Lg.entryAt p (i : Int)]) (i + m) (by omega) hfit (by omega) (by rw [List.length_append, List.length_singleton]; omega)
              rw [show (i : Int) + (m : Int) = ((i + m : Nat) : Int) by omega]
              rw [List.map_append, List.map_singleton, show logMk (Lg.entryAt p (i : Int)) = (⟨Lg.keyOf (rd p (i : Int)), Lg.vals ((p.take (i + m)).drop i) n⟩ : EntT) by rw [hval]; rfl] at h5
              obtain ⟨K, hKK⟩ := rvals_loop p hp i m n (by omega) hmn hfit (by rw [← hN]; exact hn) (es.map logMk) (by rw [List.length_map]; omega) (Lg.keyOf (rd p (i : Int))) _ n 0 (by omega) h5
              refine ⟨K, fun k hk => ?_⟩
              show (if _ then _ else _) = _
              rw [if_pos hr, if_pos (by omega)]
              exact hKK k hk
            · rw [if_neg (by rw [hright]; intro h; exact hr (beq_iff_eq.mp h)), hmm]
              have h5 := ih es (i + m) (by omega) hfit (by omega) (by omega)
              rw [show (i : Int) + (m : Int) = ((i + m : Nat) : Int) by omega]
              refine Ev.congr (fun k => ?_) h5
              rw [if_neg hr]
          · refine Ev.step (f := fun k => gimbalref29_Scan.j1 k p (es.map logMk) (i : Int) (m : Int) true) (fun k => ?_) (Ev.step (f := fun _ => some (es.map logMk, (256 : Int))) (fun k => ?_) ?_)
            · simp only [gimbalref29_Scan.l0]
              rw [if_pos (by omega), if_pos (by omega), if_pos (by omega), if_neg hff, hsz, Option.bind_some, if_neg (by omega), hw1, decide_eq_true (by omega)]
            · simp only [gimbalref29_Scan.j1]
              rw [if_pos trivial]
            · rw [logNo p F es _ (by omega) hff (.inr (by omega))]
              exact Ev.now _
        · rw [if_neg hrec] at hsz
          refine Ev.step (f := fun k => gimbalref29_Scan.j1 k p (es.map logMk) (i : Int) 0 true) (fun k => ?_) (Ev.step (f := fun _ => some (es.map logMk, (256 : Int))) (fun k => ?_) ?_)
          · simp only [gimbalref29_Scan.l0]
            rw [if_pos (by omega), if_pos (by omega), if_pos (by omega), if_neg hff, hsz, Option.bind_some, if_pos rfl]
          · simp only [gimbalref29_Scan.j1]
            rw [if_pos trivial]
          · rw [logNo p F es _ (by omega) hff (.inl (by simpa using hrec))]
            exact Ev.now _
    · obtain rfl : i = 256 := by omega
      refine Ev.step (f := fun _ => some (es.map logMk, (256 : Int))) (fun k => ?_) ?_
      · simp only [gimbalref29_Scan.l0]
        rw [if_neg (by omega)]
      · rw [logStop p (F + 1) es _ (.inl (by omega))]
        exact Ev.now _
theorem rscan_ev (p : List Int) (hp : pageOk p) : Ev (fun k => gimbalref29_Scan.f k p) ((Lg.scanF p 256 [] 1).1.map logMk, (Lg.scanF p 256 [] 1).2) := rscan p hp 256 [] 1 (by omega) (by omega) (by omega) (by simp)
theorem rdE (l : List EntT) (i : Nat) (h : i < l.length) : rd_T25 l (i : Int) = l[i] := by
  unfold rd_T25
  rw [Int.toNat_natCast, List.getD_eq_getElem?_getD, List.getElem?_eq_getElem h]
  rfl
theorem eqEntry_same (e : EntT) (h : e.f1.length < 9223372036854775807) : Ev (fun k => gimbalref0_EqEntry.f k e.f0 e.f1 e.f0 e.f1) true := by
  refine Ev.congr (f := fun k => (gimbalref0_EqBytes.f k e.f1 e.f1).bind fun t => some t) (fun k => ?_) (Ev.bind (eqBytes_same e.f1 e.f1 h rfl) (Ev.now _))
  unfold gimbalref0_EqEntry.f
  rw [if_pos rfl]
theorem eqEntries_loop (l : List EntT) (hb : ∀ e ∈ l, e.f1.length < 9223372036854775807) (hl : l.length < 9223372036854775807) (d : Nat) : ∀ j : Nat, j + d = l.length → Ev (fun k => gimbalref0_EqEntries.l0 k l l (j : Int)) true := by
  induction d with
  | zero =>
    intro j hj
    refine Ev.step (f := fun _ => some true) (fun k => ?_) (Ev.now _)
    simp only [gimbalref0_EqEntries.l0]
    rw [if_neg (by omega)]
  | succ d ih =>
    intro j hj
    have hlt : j < l.length := by omega
    refine Ev.step (f := fun k => (gimbalref0_EqEntry.f k (l[j]).f0 (l[j]).f1 (l[j]).f0 (l[j]).f1).bind fun t => if t = true then gimbalref0_EqEntries.l0 k l l ((j + 1 : Nat) : Int) else some false) (fun k => ?_) ?_
    · simp only [gimbalref0_EqEntries.l0]
      rw [if_pos (by omega), if_pos (by omega), if_pos (by omega), rdE l j hlt, w64s j (by omega)]
    · refine Ev.bind (eqEntry_same l[j] (hb _ (List.getElem_mem hlt))) ?_
      refine Ev.congr (f := fun k => gimbalref0_EqEntries.l0 k l l ((j + 1 : Nat) : Int)) (fun k => ?_) (ih (j + 1) (by omega))
      rw [if_pos rfl]
theorem eqEntries_same (l m : List EntT) (he : l = m) (hb : ∀ e ∈ l, e.f1.length < 9223372036854775807) (hl : l.length < 9223372036854775807) : Ev (fun k => gimbalref0_EqEntries.f k l m) true := by
  subst he
  refine Ev.congr (f := fun k => gimbalref0_EqEntries.l0 k l l 0) (fun k => ?_) (eqEntries_loop l hb hl l.length 0 (by omega))
  unfold gimbalref0_EqEntries.f
  rw [if_pos rfl]
theorem copyWords_loop (l : List Int) (hl : l.length ≤ 1000) (d : Nat) : ∀ j : Nat, j + d = l.length → Ev (fun k => gimbalref0_CopyWords.l0 k l (l.take j) (j : Int)) l := by
  induction d with
  | zero =>
    intro j hj
    refine Ev.step (f := fun _ => some l) (fun k => ?_) (Ev.now _)
    simp only [gimbalref0_CopyWords.l0]
    rw [if_neg (by omega), List.take_of_length_le (by omega)]
  | succ d ih =>
    intro j hj
    have hlt : j < l.length := by omega
    have h := ih (j + 1) (by omega)
    rw [List.take_succ_eq_append_getElem hlt, ← rdI_some l j hlt] at h
    refine Ev.step (fun k => ?_) h
    simp only [gimbalref0_CopyWords.l0]
    rw [if_pos (by omega), if_pos (by omega), if_pos (by rw [List.length_take]; omega), w64s j (by omega)]
theorem copyWords_ev (l : List Int) (hl : l.length ≤ 1000) : Ev (fun k => gimbalref0_CopyWords.f k l) l := by
  have h := copyWords_loop l hl l.length 0 (by omega)
  rw [List.take_zero] at h
  exact h
abbrev AskT := S30
theorem wakes_now : gimballaw30_wakes.f = some true := by decide +kernel
theorem eqWords_loop (l : List Int) (hl : l.length < 9223372036854775807) (d : Nat) : ∀ j : Nat, j + d = l.length → Ev (fun k => gimbalref0_EqWords.l0 k l l (j : Int)) true := by
  induction d with
  | zero =>
    intro j hj
    refine Ev.step (f := fun _ => some true) (fun k => ?_) (Ev.now _)
    simp only [gimbalref0_EqWords.l0]
    rw [if_neg (by omega)]
  | succ d ih =>
    intro j hj
    refine Ev.step (fun k => ?_) (ih (j + 1) (by omega))
    simp only [gimbalref0_EqWords.l0]
    rw [if_pos (by omega), if_pos (by omega), if_pos (by omega), if_pos trivial, w64s j (by omega)]
theorem eqWords_same (l : List Int) (hl : l.length < 9223372036854775807) : Ev (fun k => gimbalref0_EqWords.f k l l) true := by
  refine Ev.congr (f := fun k => gimbalref0_EqWords.l0 k l l 0) (fun k => ?_) (eqWords_loop l hl l.length 0 (by omega))
  unfold gimbalref0_EqWords.f
  rw [if_pos rfl]
theorem copyBytes_loop (l : List Int) (hl : l.length ≤ 1000) (d : Nat) : ∀ j : Nat, j + d = l.length → Ev (fun k => gimbalref0_CopyBytes.l0 k l (l.take j) (j : Int)) l := by
  induction d with
  | zero =>
    intro j hj
    refine Ev.step (f := fun _ => some l) (fun k => ?_) (Ev.now _)
    simp only [gimbalref0_CopyBytes.l0]
    rw [if_neg (by omega), List.take_of_length_le (by omega)]
  | succ d ih =>
    intro j hj
    have hlt : j < l.length := by omega
    have h := ih (j + 1) (by omega)
    rw [List.take_succ_eq_append_getElem hlt, ← rdI_some l j hlt] at h
    refine Ev.step (fun k => ?_) h
    simp only [gimbalref0_CopyBytes.l0]
    rw [if_pos (by omega), if_pos (by omega), if_pos (by rw [List.length_take]; omega), w64s j (by omega)]
theorem copyEntry_ev (key : Int) (l : List Int) (hl : l.length ≤ 1000) : Ev (fun k => gimbalref0_CopyEntry.f k key l) (key, l) := by
  have h := copyBytes_loop l hl l.length 0 (by omega)
  rw [List.take_zero] at h
  exact Ev.bind (f := fun _ t => some (key, t)) h (Ev.now _)
theorem pack_bad (key : Int) (v : List Int) (h : ¬ (0 ≤ key ∧ key < 16 ∧ v.length ≤ 24)) : Ev (fun k => log_Pack.f k key v) ([], 1) := by
  refine Ev.congr (f := fun _ => some (([] : List Int), (1 : Int))) (fun k => ?_) (Ev.now _)
  unfold log_Pack.f log_Good.f
  by_cases h1 : key ≥ 0
  · by_cases h2 : key < 16
    · rw [if_pos h1, if_pos h2, Option.bind_some, decide_eq_false (by omega), if_neg (by simp)]
    · rw [if_pos h1, if_neg h2, Option.bind_some, if_neg (by simp)]
  · rw [if_neg h1, Option.bind_some, if_neg (by simp)]
theorem and24 (x : Int) (h0 : 0 ≤ x) (h1 : x < 4294967296) : Go.bits .and .u32 x 16777215 = x % 16777216 := by
  rw [u32_and x 16777215 h0 h1 (by decide) (by decide)]
  have e : x.toNat &&& (16777215 : Int).toNat = x.toNat % 16777216 := by
    have := Nat.and_two_pow_sub_one_eq_mod x.toNat 24
    exact this
  rw [e]
  omega
theorem gen_same (x : Int) (h0 : 0 ≤ x) (h1 : x < 4294967296) : gimbalref29_Gen.f x = log_Gen.f x := by
  unfold gimbalref29_Gen.f log_Gen.f
  rw [andHigh x h0 h1, and24 x h0 h1, notHigh x h0 h1]
  by_cases h : x / 16777216 = 71
  · rw [if_pos h, if_pos (by omega)]
  · rw [if_neg h, if_neg (by omega)]
theorem gen_some (x : Int) : ∃ r, log_Gen.f x = some r := by
  unfold log_Gen.f
  split <;> exact ⟨_, rfl⟩
section
variable (x0 : List AskT) (x3 : Int) (hnext : Ev (fun k => gimballaw30_LogExact.l0 k x0 (wrap64 (x3 + 1))) true) (key : Int) (v : List Int) (gen wd : Int) (pg : List Int) (L : List EntT) (N : Int)
include hnext
theorem j7_ev (bad : Int) (all : List EntT) (free : Int) (hs : log_Scan.f pg = some (all, free, bad)) (hb : all.length ≤ 1000) (hb2 : ∀ e ∈ all, e.f1.length ≤ 1000) (hp : pg.length ≤ 1000) :
    Ev (fun k => gimballaw30_LogExact.j7 k x0 x3 bad all free key v gen wd pg L N) true := by
  have hE : gimballaw0_Entries.f all = some () := by
    unfold gimballaw0_Entries.f
    rw [if_pos ⟨hb, List.all_eq_true.mpr fun e he => decide_eq_true (hb2 e he)⟩]
  refine Ev.step (f := fun k => (gimbalref0_CopyWords.f k pg).bind fun t224 => ((log_Scan.f t224).bind fun bt227 => ((gimballaw30_num.f bt227.2.2).bind fun t232 => (if t232 = bad then (if bt227.2.1 = free then ((gimbalref0_EqEntries.f k bt227.1 all).bind fun t233 => (if t233 = true then ((gimbalref0_EqWords.f k t224 pg).bind fun t234 => (if t234 = true then ((gimballaw0_Entries.f bt227.1).bind fun _ => (gimballaw30_LogExact.l0 k x0 (wrap64 (x3 + 1)))) else (some false))) else (some false))) else (some false)) else (some false))))) (fun k => ?_) (Ev.bind (copyWords_ev pg hp) ?_)
  · simp only [gimballaw30_LogExact.j7]
  · refine Ev.congr (f := fun k => (gimbalref0_EqEntries.f k all all).bind fun t233 => (if t233 = true then ((gimbalref0_EqWords.f k pg pg).bind fun t234 => (if t234 = true then ((gimballaw0_Entries.f all).bind fun _ => (gimballaw30_LogExact.l0 k x0 (wrap64 (x3 + 1)))) else (some false))) else (some false))) (fun k => ?_) (Ev.bind (eqEntries_same all all rfl (fun e he => by have := hb2 e he; omega) (by omega)) (Ev.congr (f := fun k => (gimbalref0_EqWords.f k pg pg).bind fun t234 => (if t234 = true then ((gimballaw0_Entries.f all).bind fun _ => (gimballaw30_LogExact.l0 k x0 (wrap64 (x3 + 1)))) else (some false))) (fun k => ?_) (Ev.bind (eqWords_same pg (by omega)) (Ev.congr (fun k => ?_) hnext))))
    · rw [hs]
      simp only [Option.bind_some]
      rw [show gimballaw30_num.f bad = some bad from rfl, Option.bind_some, if_pos rfl, if_pos trivial]
    · rw [if_pos rfl]
    · rw [if_pos rfl, hE, Option.bind_some]
theorem j6_ev (hp : pg.length ≤ 600) (hw : ∀ x ∈ pg, 0 ≤ x ∧ x < 4294967296) : Ev (fun k => gimballaw30_LogExact.j6 k x0 x3 false key v gen wd pg L N) true := by
  by_cases h : pg.length = 256
  · obtain ⟨h1, h2⟩ := scan_len pg 256 [] 1 (by simp)
    refine Ev.step (f := fun k => (gimbalref29_Scan.f k pg).bind fun bt220 => (gimballaw30_LogExact.j7 k x0 x3 0 bt220.1 bt220.2 key v gen wd pg L N)) (fun k => ?_) (Ev.bind (rscan_ev pg ⟨h, hw⟩) (j7_ev x0 x3 hnext key v gen wd pg L N 0 _ _ ?_ ?_ ?_ (by omega)))
    · simp only [gimballaw30_LogExact.j6]
      rw [if_neg (by simp), if_pos (by omega)]
    · unfold log_Scan.f
      rw [if_pos h]
    · rw [List.length_map]
      rw [List.length_nil] at h2
      omega
    · intro e he
      obtain ⟨q, hq, rfl⟩ := List.mem_map.1 he
      exact Nat.le_trans (h1 q hq) (by decide)
  · refine Ev.step (fun k => ?_) (j7_ev x0 x3 hnext key v gen wd pg L N 1 [] 0 (by unfold log_Scan.f; rw [if_neg h]) (by simp) (by simp) (by omega))
    simp only [gimballaw30_LogExact.j6]
    rw [if_neg (by simp), if_neg (by omega)]
theorem j5_ev (hp : pg.length ≤ 600) (hw : ∀ x ∈ pg, 0 ≤ x ∧ x < 4294967296) (w0 : 0 ≤ wd) (w1 : wd < 4294967296) : Ev (fun k => gimballaw30_LogExact.j5 k x0 x3 key v gen wd pg L N) true := by
  obtain ⟨r, hr⟩ := gen_some wd
  refine Ev.step (fun k => ?_) (j6_ev x0 x3 hnext key v gen wd pg L N hp hw)
  simp only [gimballaw30_LogExact.j5]
  rw [gen_same wd w0 w1, hr]
  simp only [Option.bind_some]
  rw [if_pos trivial]
  congr 1
  cases r.2 <;> rfl
theorem j3_ev (hp : pg.length ≤ 600) (hw : ∀ x ∈ pg, 0 ≤ x ∧ x < 4294967296) (w0 : 0 ≤ wd) (w1 : wd < 4294967296) : Ev (fun k => gimballaw30_LogExact.j3 k x0 x3 false key v gen wd pg L N) true := by
  have h5 := j5_ev x0 x3 hnext key v gen wd pg L N hp hw w0 w1
  by_cases g0 : gen ≥ 0
  · by_cases g1 : gen < 16777216
    · refine Ev.step (f := fun k => gimballaw30_LogExact.j4 k x0 x3 ((1191182336 + ((gen) % 4294967296)) % 4294967296) 0 true key v gen wd pg L N) (fun k => ?_) (Ev.step (fun k => ?_) h5)
      · simp only [gimballaw30_LogExact.j3]
        unfold log_Head.f
        rw [if_neg (by simp), if_neg (by omega), if_neg (by omega), Option.bind_some, if_pos g0, decide_eq_true g1]
      · simp only [gimballaw30_LogExact.j4]
        rw [if_pos trivial, show gimballaw30_num.f 0 = some 0 from rfl, Option.bind_some, if_pos rfl, if_pos trivial]
    · refine Ev.step (f := fun k => gimballaw30_LogExact.j4 k x0 x3 0 1 false key v gen wd pg L N) (fun k => ?_) (Ev.step (fun k => ?_) h5)
      · simp only [gimballaw30_LogExact.j3]
        unfold log_Head.f
        rw [if_neg (by simp), if_neg (by omega), if_pos (by omega), Option.bind_some, if_pos g0, decide_eq_false g1]
      · simp only [gimballaw30_LogExact.j4]
        rw [if_neg (by simp), show gimballaw30_num.f 1 = some 1 from rfl, Option.bind_some, if_pos rfl, if_pos trivial]
  · refine Ev.step (f := fun k => gimballaw30_LogExact.j4 k x0 x3 0 1 false key v gen wd pg L N) (fun k => ?_) (Ev.step (fun k => ?_) h5)
    · simp only [gimballaw30_LogExact.j3]
      unfold log_Head.f
      rw [if_neg (by simp), if_pos (by omega), Option.bind_some, if_neg g0]
    · simp only [gimballaw30_LogExact.j4]
      rw [if_neg (by simp), show gimballaw30_num.f 1 = some 1 from rfl, Option.bind_some, if_pos rfl, if_pos trivial]
theorem j2_ev (P : List Int) (bad : Int) (hP : Ev (fun k => log_Pack.f k key v) (P, bad)) (hPl : P.length ≤ 1000) (hv : v.length ≤ 500) (hp : pg.length ≤ 600) (hw : ∀ x ∈ pg, 0 ≤ x ∧ x < 4294967296) (w0 : 0 ≤ wd) (w1 : wd < 4294967296) :
    Ev (fun k => gimballaw30_LogExact.j2 k x0 x3 bad P key v gen wd pg L N) true := by
  have h3 := j3_ev x0 x3 hnext key v gen wd pg L N hp hw w0 w1
  have hq : Ev (fun k => gimbalref0_EqEntry.f k key v key v) true := eqEntry_same (⟨key, v⟩ : EntT) (by show v.length < _; omega)
  refine Ev.step (f := fun k => (gimbalref0_CopyEntry.f k key v).bind fun bt200 => ((log_Pack.f k bt200.1 bt200.2).bind fun bt205 => ((gimballaw30_num.f bt205.2).bind fun t209 => (if t209 = bad then ((gimbalref0_EqWords.f k bt205.1 P).bind fun t210 => (if t210 = true then ((gimbalref0_EqEntry.f k bt200.1 bt200.2 key v).bind fun t211 => (gimballaw30_LogExact.j3 k x0 x3 (!t211) key v gen wd pg L N)) else (gimballaw30_LogExact.j3 k x0 x3 true key v gen wd pg L N))) else (gimballaw30_LogExact.j3 k x0 x3 true key v gen wd pg L N))))) (fun k => ?_) (Ev.bind (copyEntry_ev key v (by omega)) (Ev.bind hP ?_))
  · simp only [gimballaw30_LogExact.j2]
  · refine Ev.congr (f := fun k => (gimbalref0_EqWords.f k P P).bind fun t210 => (if t210 = true then ((gimbalref0_EqEntry.f k key v key v).bind fun t211 => (gimballaw30_LogExact.j3 k x0 x3 (!t211) key v gen wd pg L N)) else (gimballaw30_LogExact.j3 k x0 x3 true key v gen wd pg L N))) (fun k => ?_) (Ev.bind (eqWords_same P (by omega)) (Ev.congr (f := fun k => (gimbalref0_EqEntry.f k key v key v).bind fun t211 => (gimballaw30_LogExact.j3 k x0 x3 (!t211) key v gen wd pg L N)) (fun k => ?_) (Ev.bind hq h3)))
    · show ((gimballaw30_num.f bad).bind _) = _
      rw [show gimballaw30_num.f bad = some bad from rfl, Option.bind_some, if_pos rfl]
    · rw [if_pos rfl]
end
theorem main_loop (l : List AskT) (hw : ∀ y ∈ l, wf30 y) (_hl : l.length ≤ 9223372036854775807) (d : Nat) : ∀ i : Nat, i + d = l.length → Ev (fun k => gimballaw30_LogExact.l0 k l (i : Int)) true := by
  induction d with
  | zero =>
    intro i hi
    refine Ev.step (f := fun k => gimballaw30_LogExact.j1 k l i false) (fun k => ?_) (Ev.step (f := fun _ => some true) (fun k => ?_) (Ev.now _))
    · simp only [gimballaw30_LogExact.l0]
      rw [if_neg (by omega)]
    · simp only [gimballaw30_LogExact.j1]
      rw [if_neg (by simp), wakes_now]
      rfl
  | succ d ih =>
    intro i hi
    have hlt : i < l.length := by omega
    refine Ev.step (f := fun k => gimballaw30_LogExact.j1 k l i (decide ((i : Int) < 10))) (fun k => ?_) ?_
    · simp only [gimballaw30_LogExact.l0]
      rw [if_pos (by omega)]
    by_cases h20 : (i : Int) < 10
    · obtain ⟨p, hp⟩ : ∃ p, p = rd_T30 l i := ⟨_, rfl⟩
      have hpm : p ∈ l := by
        rw [hp]
        unfold rd_T30
        rw [Int.toNat_natCast, List.getD_eq_getElem?_getD, List.getElem?_eq_getElem hlt]
        exact List.getElem_mem hlt
      have hwp := hw p hpm
      have hv : ∀ y ∈ p.f0.f1, 0 ≤ y ∧ y < 256 := fun y hy => by
        have := hwp.1.2.2 y hy
        simp [Lit.wf, IntKind.min, IntKind.max, IntKind.bits, IntKind.signed] at this
        omega
      have hwd : 0 ≤ p.f2 ∧ p.f2 < 4294967296 := by
        have := hwp.2.2.1
        simp [Lit.wf, IntKind.min, IntKind.max, IntKind.bits, IntKind.signed] at this
        omega
      have hpg : ∀ x ∈ p.f3, 0 ≤ x ∧ x < 4294967296 := fun x hx => by
        have := hwp.2.2.2.1.2 x hx
        simp [Lit.wf, IntKind.min, IntKind.max, IntKind.bits, IntKind.signed] at this
        omega
      have hnext := ih (i + 1) (by omega)
      rw [← w64s i (by omega)] at hnext
      rw [decide_eq_true h20]
      obtain ⟨b, hb, hb2⟩ : ∃ b, gimballaw30_heavy.f p.f0.f0 p.f0.f1 p.f1 p.f2 p.f3 p.f4 p.f5 = some b ∧ (b = false → p.f0.f1.length ≤ 500 ∧ p.f3.length ≤ 600) := by
        unfold gimballaw30_heavy.f
        split
        · exact ⟨_, rfl, fun h => by cases h⟩
        · split
          · exact ⟨_, rfl, fun h => by cases h⟩
          · exact ⟨_, rfl, fun h => by omega⟩
      by_cases hbt : b = true
      · refine Ev.step (f := fun _ => some true) (fun k => ?_) (Ev.now _)
        simp only [gimballaw30_LogExact.j1]
        rw [if_pos trivial, if_pos (by omega), if_pos (by omega), ← hp, hb, Option.bind_some, if_pos hbt]
      · obtain ⟨hl1, hl2⟩ := hb2 (by simpa using hbt)
        have hM : gimbalref29_MayEntry.f p.f0.f0 p.f0.f1 = some (decide (0 ≤ p.f0.f0 ∧ p.f0.f0 < 16 ∧ (p.f0.f1.length : Int) ≤ 24)) := by
          unfold gimbalref29_MayEntry.f
          by_cases h1 : p.f0.f0 ≥ 0
          · by_cases h2 : p.f0.f0 < 16
            · rw [if_pos h1, if_pos h2]
              congr 1
              rw [decide_eq_decide]
              omega
            · rw [if_pos h1, if_neg h2, decide_eq_false (by omega)]
          · rw [if_neg h1, decide_eq_false (by omega)]
        by_cases hm : 0 ≤ p.f0.f0 ∧ p.f0.f0 < 16 ∧ (p.f0.f1.length : Int) ≤ 24
        · have hpd := packD_len p.f0.f0 p.f0.f1
          refine Ev.step (f := fun k => (gimbalref29_Pack.f k p.f0.f0 p.f0.f1).bind fun t197 => (gimballaw30_LogExact.j2 k l i 0 t197 p.f0.f0 p.f0.f1 p.f1 p.f2 p.f3 p.f4 p.f5)) (fun k => ?_) (Ev.bind (rpack_ev p.f0.f1 hv (by omega) p.f0.f0 hm.1 hm.2.1) (j2_ev l i hnext p.f0.f0 p.f0.f1 p.f1 p.f2 p.f3 p.f4 p.f5 _ 0 (pack_ev p.f0.f1 hv (by omega) p.f0.f0 hm.1 hm.2.1) (by omega) hl1 hl2 hpg hwd.1 hwd.2))
          simp only [gimballaw30_LogExact.j1]
          rw [if_pos trivial, if_pos (by omega), if_pos (by omega), ← hp, hb, Option.bind_some, if_neg hbt, hM, Option.bind_some, decide_eq_true hm, if_pos rfl]
        · refine Ev.step (fun k => ?_) (j2_ev l i hnext p.f0.f0 p.f0.f1 p.f1 p.f2 p.f3 p.f4 p.f5 [] 1 (pack_bad p.f0.f0 p.f0.f1 (by omega)) (by simp) hl1 hl2 hpg hwd.1 hwd.2)
          simp only [gimballaw30_LogExact.j1]
          rw [if_pos trivial, if_pos (by omega), if_pos (by omega), ← hp, hb, Option.bind_some, if_neg hbt, hM, Option.bind_some, decide_eq_false hm, if_neg (by simp)]
    · refine Ev.step (f := fun _ => some true) (fun k => ?_) (Ev.now _)
      simp only [gimballaw30_LogExact.j1]
      rw [if_neg (by simpa using h20), wakes_now]
      rfl
theorem LogExact : gimballaw30_LogExact.Pure := by
  intro l ⟨hl, hw⟩
  exact (main_loop l hw (by unfold maxLen at hl; omega) l.length 0 (by omega)).rounds
end Go.Proofs.Ytbleapgklbohcaa.Pure
