/-
  The pure law of DrvSamples: of samples whose checks are right each is told as it was, in order; one with a turned byte is discarded, and counted.
  No conditions.
-/
import Derived.Test.YtnlmbejkemkkoaaSpecDrvSamples
import Derived.Test.YtnlmbejkemkkoaaOpens
import Derived.Laws.BitsAllLaws
namespace Go.Proofs.Ytnlmbejkemkkoaa.Pure
open Go.RowKit Go.Proofs.Ytnlmbejkemkkoaa.Op Go.Proofs.Ytnlmbejkemkkoaa.PDrvSamples Go.Proofs.YtnlmbejkemkkoaaW.PrintWords Go.Proofs.YtnlmbejkemkkoaaW.PrintLast Go.Proofs.YtnlmbejkemkkoaaW.PrintMore
theorem w64 {x : Int} (h : -9223372036854775808 ≤ x) (h2 : x < 9223372036854775808) : wrap64 x = x := by
  unfold wrap64
  omega
theorem w64s (n : Nat) (h : n < 9223372036854775807) : wrap64 ((n : Int) + 1) = ((n + 1 : Nat) : Int) := by
  rw [w64 (by omega) (by omega)]
  omega
/-- The check of bytes: all of them, turned into 90. -/
def ck (l : List Int) : Nat := l.foldl (fun c y => c ^^^ y.toNat) 90
def isBytes (l : List Int) : Prop := ∀ y ∈ l, 0 ≤ y ∧ y < 256
theorem fold_lt (l : List Int) (h : isBytes l) (c : Nat) (hc : c < 256) : l.foldl (fun c y => c ^^^ y.toNat) c < 256 := by
  induction l generalizing c with
  | nil => exact hc
  | cons y l ih =>
    have hy := h y (by simp)
    exact ih (fun z hz => h z (by simp [hz])) _ (Nat.xor_lt_two_pow (n := 8) hc (by omega))
theorem ck_lt (l : List Int) (h : isBytes l) : ck l < 256 := fold_lt l h 90 (by decide)
theorem check_l0 (l : List Int) (h : isBytes l) (hn : l.length < 1000) (d : Nat) : ∀ (k i c : Nat), i + d = l.length → d < k → c < 256 → bus_Check.l0 k (c : Int) l (l.length : Int) (i : Int) = some (((l.drop i).foldl (fun c y => c ^^^ y.toNat) c : Nat) : Int) := by
  induction d with
  | zero =>
    intro k i c hi hk hc
    obtain ⟨k, rfl⟩ : ∃ m, k = m + 1 := ⟨k - 1, by omega⟩
    simp only [bus_Check.l0]
    rw [if_neg (by omega), List.drop_eq_nil_of_le (by omega)]
    rfl
  | succ d ih =>
    intro k i c hi hk hc
    obtain ⟨k, rfl⟩ : ∃ m, k = m + 1 := ⟨k - 1, by omega⟩
    have hlt : i < l.length := by omega
    have hy := h l[i] (List.getElem_mem hlt)
    have hr : rd l (i : Int) = l[i] := by unfold rd; simp [List.getD_eq_getElem?_getD, hlt]
    simp only [bus_Check.l0]
    rw [if_pos (by omega), if_pos (by omega), if_pos (by omega), hr, u8_xor _ _ (by omega) (by omega) hy.1 hy.2, w64 (by omega) (by omega), Int.toNat_natCast]
    rw [show ((i : Int) + 1) = ((i + 1 : Nat) : Int) by omega, ih k (i + 1) _ (by omega) (by omega) (Nat.xor_lt_two_pow (n := 8) hc (by omega))]
    rw [← List.getElem_cons_drop hlt]
    rfl
theorem check_f (l : List Int) (h : isBytes l) (hn : l.length < 1000) (k : Nat) (hk : l.length < k) : bus_Check.f k l = some ((ck l : Nat) : Int) := by
  have := check_l0 l h hn l.length k 0 90 (by omega) (by omega) (by decide)
  exact this
theorem number_f (l : List Int) (h : isBytes l) (hn : 2 ≤ l.length) : drv_number.f l = some (wrap64 (IntKind.i16.wrap (rd l 0 * 256 + rd l 1))) := by
  have g : ∀ i : Nat, i < l.length → 0 ≤ rd l (i : Int) ∧ rd l (i : Int) < 256 := fun i hi => by
    have : rd l (i : Int) = l[i] := by unfold rd; simp [List.getD_eq_getElem?_getD, hi]
    rw [this]
    exact h _ (List.getElem_mem hi)
  have h0 := g 0 (by omega)
  have h1 := g 1 (by omega)
  simp only [Int.ofNat_zero, Int.natCast_one] at h0 h1
  generalize hA : rd l 0 = A at h0
  generalize hB : rd l 1 = B at h1
  unfold drv_number.f
  rw [if_pos (by omega), if_pos (by omega), hA, hB]
  have e1 : IntKind.u16.wrap A = A := by rw [IntKind.wrap_u16]; omega
  have e2 : IntKind.u16.wrap B = B := by rw [IntKind.wrap_u16]; omega
  have e3 : IntKind.u16.wrap (A * 256) = A * 256 := by rw [IntKind.wrap_u16]; omega
  rw [e1, e2, e3, u16_or _ _ (by omega) (by omega) (by omega) (by omega)]
  have e4 : (A * 256).toNat ||| B.toNat = (A * 256).toNat + B.toNat := by
    obtain ⟨a, rfl⟩ := Int.eq_ofNat_of_zero_le h0.1
    obtain ⟨b, rfl⟩ := Int.eq_ofNat_of_zero_le h1.1
    rw [Int.toNat_natCast, show ((a : Int) * 256).toNat = 2 ^ 8 * a by omega]
    rw [Nat.two_pow_add_eq_or_of_lt (by omega)]
  rw [e4]
  congr 3
  omega
/-- A block of eight bytes, and what it tells. -/
def dec (b : List Int) : S55 := ⟨wrap64 (IntKind.i16.wrap (rd b 0 * 256 + rd b 1)), wrap64 (IntKind.i16.wrap (rd b 2 * 256 + rd b 3)), wrap64 (IntKind.i16.wrap (rd b 4 * 256 + rd b 5)), wrap64 (IntKind.i8.wrap (rd b 6))⟩
def tells (b : List Int) : Option (S55) := if ((ck (b.take 7) : Nat) : Int) = rd b 7 then some (dec b) else none
def badN (q : Int) (n : Nat) : Int := if q + n ≤ 1099511627776 then q + n else 1099511627776
theorem rd_drop (l : List Int) (m : Nat) (i : Nat) : rd (l.drop m) (i : Int) = rd l ((m + i : Nat) : Int) := by
  unfold rd
  rw [Int.toNat_natCast, Int.toNat_natCast, List.getD_eq_getElem?_getD, List.getD_eq_getElem?_getD, List.getElem?_drop]
theorem rd_left (a b : List Int) (i : Nat) (h : i < a.length) : rd (a ++ b) (i : Int) = rd a (i : Int) := by
  unfold rd
  rw [Int.toNat_natCast, List.getD_eq_getElem?_getD, List.getD_eq_getElem?_getD, List.getElem?_append_left h]
theorem bytes_app {a b : List Int} (ha : isBytes a) (hb : isBytes b) : isBytes (a ++ b) := fun y hy => by
  rcases List.mem_append.1 hy with h | h
  · exact ha y h
  · exact hb y h
theorem bytes_drop {a : List Int} (ha : isBytes a) (n : Nat) : isBytes (a.drop n) := fun y hy => ha y (List.mem_of_mem_drop hy)
theorem bytes_take {a : List Int} (ha : isBytes a) (n : Nat) : isBytes (a.take n) := fun y hy => ha y (List.mem_of_mem_take hy)
theorem bytes_flat {bs : List (List Int)} (h : ∀ b ∈ bs, b.length = 8 ∧ isBytes b) : isBytes bs.flatten := fun y hy => by
  obtain ⟨b, hb, hyb⟩ := List.mem_flatten.1 hy
  exact (h b hb).2 y hyb
theorem samples_l0 (d0 d1 : Int) (d2 : Bool) (d3 d4 d5 : Int) (d6 : Bool) (d7 : Int) (bs : List (List Int)) : ∀ (k : Nat) (acc : List (S55)) (q : Int), (∀ b ∈ bs, b.length = 8 ∧ isBytes b) → bs.length + 8 < k → acc.length + bs.length < 4398046511104 → 0 ≤ q → q ≤ 1099511627776 →
    drv_samples.l0 k bs.flatten acc d0 d1 d2 d3 d4 d5 d6 d7 q = some (d0, d1, d2, d3, 4, d5, d6, 0, badN q (bs.length - (bs.filterMap tells).length), acc ++ bs.filterMap tells) := by
  induction bs with
  | nil =>
    intro k acc q _ hk _ h0 h1
    obtain ⟨k, rfl⟩ : ∃ m, k = m + 1 := ⟨k - 1, by omega⟩
    simp only [drv_samples.l0, List.flatten_nil, List.length_nil]
    rw [if_neg (by simp)]
    simp only [List.filterMap_nil, List.length_nil, List.append_nil]
    unfold badN
    rw [if_pos (by omega)]
    simp
  | cons b bs ih =>
    intro k acc q hb hk ha h0 h1
    obtain ⟨k, rfl⟩ : ∃ m, k = m + 1 := ⟨k - 1, by omega⟩
    obtain ⟨hlen, hby⟩ := hb b (by simp)
    have hrest : ∀ c ∈ bs, c.length = 8 ∧ isBytes c := fun c hc => hb c (by simp [hc])
    have hfl : isBytes (b ++ bs.flatten) := bytes_app hby (bytes_flat hrest)
    have hll : (b ++ bs.flatten).length = 8 + bs.flatten.length := by rw [List.length_append, hlen]
    have htk : (b ++ bs.flatten).take 7 = b.take 7 := by rw [List.take_append_of_le_length (by omega)]
    have hdr : (b ++ bs.flatten).drop 8 = bs.flatten := by rw [← hlen, List.drop_left]
    have r : ∀ i : Nat, i < 8 → rd (b ++ bs.flatten) (i : Int) = rd b (i : Int) := fun i hi => rd_left _ _ i (by omega)
    have r7 := r 7 (by omega)
    have r6 := r 6 (by omega)
    have hfm : (b :: bs).filterMap tells = (tells b).toList ++ bs.filterMap tells := by
      rw [List.filterMap_cons]
      cases tells b <;> rfl
    have hle := List.length_filterMap_le tells bs
    simp only [drv_samples.l0, List.flatten_cons]
    rw [if_pos (by omega), if_pos (by omega), htk, check_f (b.take 7) (bytes_take hby 7) (by rw [List.length_take]; omega) k (by rw [List.length_take]; omega)]
    simp only [Option.bind_some]
    rw [if_pos (by omega), show rd (b ++ bs.flatten) 7 = rd b 7 from r7, hdr]
    have hck : (if (8 : Int) ≤ ((b ++ bs.flatten).length : Int) then drv_samples.l0 k bs.flatten acc d0 d1 d2 d3 d4 d5 d6 d7 (mn (wrap64 (q + 1)) 1099511627776) else none) = drv_samples.l0 k bs.flatten acc d0 d1 d2 d3 d4 d5 d6 d7 (mn (wrap64 (q + 1)) 1099511627776) := if_pos (by omega)
    by_cases hc : ((ck (b.take 7) : Nat) : Int) = rd b 7
    · have ht : tells b = some (dec b) := if_pos hc
      rw [if_pos hc, number_f _ hfl (by omega)]
      simp only [Option.bind_some]
      rw [if_pos (by omega), number_f _ (bytes_drop hfl 2) (by rw [List.length_drop]; omega)]
      simp only [Option.bind_some]
      rw [if_pos (by omega), number_f _ (bytes_drop hfl 4) (by rw [List.length_drop]; omega)]
      simp only [Option.bind_some]
      rw [if_pos (by omega), if_pos (by omega), if_pos (by omega)]
      have e0 := r 0 (by omega)
      have e1 := r 1 (by omega)
      have e2 := (rd_drop (b ++ bs.flatten) 2 0).trans (r 2 (by omega))
      have e3 := (rd_drop (b ++ bs.flatten) 2 1).trans (r 3 (by omega))
      have e4 := (rd_drop (b ++ bs.flatten) 4 0).trans (r 4 (by omega))
      have e5 := (rd_drop (b ++ bs.flatten) 4 1).trans (r 5 (by omega))
      rw [show rd (b ++ bs.flatten) 0 = rd b 0 from e0, show rd (b ++ bs.flatten) 1 = rd b 1 from e1, show rd ((b ++ bs.flatten).drop 2) 0 = rd b 2 from e2, show rd ((b ++ bs.flatten).drop 2) 1 = rd b 3 from e3, show rd ((b ++ bs.flatten).drop 4) 0 = rd b 4 from e4, show rd ((b ++ bs.flatten).drop 4) 1 = rd b 5 from e5, show rd (b ++ bs.flatten) 6 = rd b 6 from r6]
      rw [ih k _ q hrest (by simp only [List.length_cons] at hk; omega) (by simp only [List.length_append, List.length_cons, List.length_nil] at ha ⊢; omega) h0 h1]
      rw [hfm, ht]
      simp only [Option.toList_some, List.length_append, List.length_cons, List.length_nil, List.append_assoc]
      rw [show bs.length + 1 - (0 + 1 + (bs.filterMap tells).length) = bs.length - (bs.filterMap tells).length by omega]
      rfl
    · have ht : tells b = none := if_neg hc
      rw [if_neg hc, if_pos (by omega)]
      have hmn : mn (wrap64 (q + 1)) 1099511627776 = badN q 1 := by
        rw [w64 (by omega) (by omega)]
        unfold mn badN
        split <;> split <;> omega
      rw [hmn, ih k acc (badN q 1) hrest (by simp only [List.length_cons] at hk; omega) (by simp only [List.length_cons] at ha; omega) (by unfold badN; split <;> omega) (by unfold badN; split <;> omega)]
      rw [hfm, ht]
      simp only [Option.toList_none, List.nil_append, List.length_cons]
      have e : badN (badN q 1) (bs.length - (bs.filterMap tells).length) = badN q (bs.length + 1 - (bs.filterMap tells).length) := by
        unfold badN
        split <;> split <;> split <;> omega
      rw [e]
theorem within_f (a n : Int) (h1 : 0 < n) (h2 : n ≤ 65536) : ∃ r, gimballaw0_Within.f a n = some r ∧ 0 ≤ r ∧ r < n := by
  have e : IntKind.u64.wrap n = n := by rw [IntKind.wrap_u64]; omega
  unfold gimballaw0_Within.f
  rw [e, if_neg (by omega)]
  have h3 : 0 ≤ IntKind.u64.wrap a := by rw [IntKind.wrap_u64]; omega
  have h4 := Int.emod_nonneg (IntKind.u64.wrap a) (by omega : n ≠ 0)
  have h5 := Int.emod_lt_of_pos (IntKind.u64.wrap a) h1
  rw [Int.tmod_eq_emod_of_nonneg h3, w64 (by omega) (by omega)]
  exact ⟨_, rfl, h4, h5⟩
theorem cut_blocks (n : Nat) : ∀ (l : List Int), isBytes l → l.length = 8 * n → ∃ bs : List (List Int), bs.flatten = l ∧ bs.length = n ∧ ∀ b ∈ bs, b.length = 8 ∧ isBytes b := by
  induction n with
  | zero =>
    intro l _ hl
    exact ⟨[], by rw [List.flatten_nil, List.eq_nil_of_length_eq_zero (show l.length = 0 by omega)], rfl, fun b hb => by simp at hb⟩
  | succ n ih =>
    intro l hb hl
    obtain ⟨bs, h1, h2, h3⟩ := ih (l.drop 8) (bytes_drop hb 8) (by rw [List.length_drop]; omega)
    refine ⟨l.take 8 :: bs, by rw [List.flatten_cons, h1, List.take_append_drop], by rw [List.length_cons, h2], fun b hm => ?_⟩
    rcases List.mem_cons.1 hm with rfl | hm
    · exact ⟨by rw [List.length_take]; omega, bytes_take hb 8⟩
    · exact h3 b hm
theorem i16_wrap (n : Int) : IntKind.i16.wrap n = if n % 65536 ≥ 32768 then n % 65536 - 65536 else n % 65536 := by simp [IntKind.wrap, IntKind.bits, IntKind.signed]
theorem i8_wrap (n : Int) : IntKind.i8.wrap n = if n % 256 ≥ 128 then n % 256 - 256 else n % 256 := by simp [IntKind.wrap, IntKind.bits, IntKind.signed]
theorem i16_of (x : Int) (h1 : -32768 ≤ x) (h2 : x ≤ 32767) : wrap64 (IntKind.i16.wrap (x / 256 % 256 * 256 + x % 256)) = x := by
  have e : IntKind.i16.wrap (x / 256 % 256 * 256 + x % 256) = x := by
    rw [i16_wrap]
    split <;> omega
  rw [e, w64 (by omega) (by omega)]
theorem i8_of (x : Int) (h1 : -128 ≤ x) (h2 : x ≤ 127) : wrap64 (IntKind.i8.wrap (x % 256)) = x := by
  have e : IntKind.i8.wrap (x % 256) = x := by
    rw [i8_wrap]
    split <;> omega
  rw [e, w64 (by omega) (by omega)]
theorem ref_l0 (l : List Int) (h : isBytes l) (hn : l.length = 7) (d : Nat) : ∀ (k i c : Nat), i + d = 7 → d < k → c < 256 → gimbalref8_Check.l0 k l (c : Int) (i : Int) = some (((l.drop i).foldl (fun c y => c ^^^ y.toNat) c : Nat) : Int) := by
  induction d with
  | zero =>
    intro k i c hi hk hc
    obtain ⟨k, rfl⟩ : ∃ m, k = m + 1 := ⟨k - 1, by omega⟩
    simp only [gimbalref8_Check.l0]
    rw [if_neg (by omega), List.drop_eq_nil_of_le (by omega)]
    rfl
  | succ d ih =>
    intro k i c hi hk hc
    obtain ⟨k, rfl⟩ : ∃ m, k = m + 1 := ⟨k - 1, by omega⟩
    have hlt : i < l.length := by omega
    have hy := h l[i] (List.getElem_mem hlt)
    have hr : rd l (i : Int) = l[i] := by unfold rd; simp [List.getD_eq_getElem?_getD, hlt]
    simp only [gimbalref8_Check.l0]
    rw [if_pos (by omega), if_pos (by omega), if_pos (by omega), hr, u8_xor _ _ (by omega) (by omega) hy.1 hy.2, w64 (by omega) (by omega), Int.toNat_natCast]
    rw [show ((i : Int) + 1) = ((i + 1 : Nat) : Int) by omega, ih k (i + 1) _ (by omega) (by omega) (Nat.xor_lt_two_pow (n := 8) hc (by omega))]
    rw [← List.getElem_cons_drop hlt]
    rfl
/-- A sample's seven bytes. -/
def seven (x y z t : Int) : List Int := [x / 256 % 256, x % 256, y / 256 % 256, y % 256, z / 256 % 256, z % 256, t % 256]
theorem seven_bytes (x y z t : Int) : isBytes (seven x y z t) := by
  intro a ha
  unfold seven at ha
  simp only [List.mem_cons, List.not_mem_nil, or_false] at ha
  rcases ha with h | h | h | h | h | h | h <;> subst h <;> omega
def blk (x y z t : Int) : List Int := seven x y z t ++ [((ck (seven x y z t) : Nat) : Int)]
theorem blk_ok (x y z t : Int) : (blk x y z t).length = 8 ∧ isBytes (blk x y z t) := by
  refine ⟨rfl, bytes_app (seven_bytes _ _ _ _) ?_⟩
  intro a ha
  simp only [List.mem_cons, List.not_mem_nil, or_false] at ha
  subst ha
  have := ck_lt _ (seven_bytes x y z t)
  omega
theorem bytes_f (x y z t : Int) (k : Nat) (hk : 8 < k) : gimbalref8_Bytes.f k x y z t = some (blk x y z t) := by
  unfold gimbalref8_Bytes.f
  simp only [Option.bind_some]
  have e : gimbalref8_Check.f k (seven x y z t) = some ((ck (seven x y z t) : Nat) : Int) := ref_l0 (seven x y z t) (seven_bytes _ _ _ _) rfl 7 k 0 90 (by omega) (by omega) (by decide)
  show (gimbalref8_Check.f k (seven x y z t)).bind _ = _
  rw [e]
  simp only [Option.bind_some]
  simp only [List.length_cons, List.length_nil]
  rw [if_pos (by omega)]
  rfl
theorem blk_tells (x y z t : Int) (hx : -32768 ≤ x ∧ x ≤ 32767) (hy : -32768 ≤ y ∧ y ≤ 32767) (hz : -32768 ≤ z ∧ z ≤ 32767) (ht : -128 ≤ t ∧ t ≤ 127) : tells (blk x y z t) = some ⟨x, y, z, t⟩ := by
  unfold tells
  rw [if_pos (show ((ck ((blk x y z t).take 7) : Nat) : Int) = rd (blk x y z t) 7 from rfl)]
  have e : dec (blk x y z t) = ⟨wrap64 (IntKind.i16.wrap (x / 256 % 256 * 256 + x % 256)), wrap64 (IntKind.i16.wrap (y / 256 % 256 * 256 + y % 256)), wrap64 (IntKind.i16.wrap (z / 256 % 256 * 256 + z % 256)), wrap64 (IntKind.i8.wrap (t % 256))⟩ := rfl
  rw [e, i16_of x hx.1 hx.2, i16_of y hy.1 hy.2, i16_of z hz.1 hz.2, i8_of t ht.1 ht.2]
theorem fold_xor (l : List Int) (c m : Nat) : l.foldl (fun c y => c ^^^ y.toNat) (c ^^^ m) = l.foldl (fun c y => c ^^^ y.toNat) c ^^^ m := by
  induction l generalizing c with
  | nil => rfl
  | cons y l ih =>
    simp only [List.foldl_cons]
    rw [← ih (c ^^^ y.toNat), Nat.xor_assoc, Nat.xor_comm m, ← Nat.xor_assoc]
theorem fold_set (l : List Int) (c m : Nat) (i : Nat) (hi : i < l.length) (v : Int) (hv : v.toNat = l[i].toNat ^^^ m) : (l.set i v).foldl (fun c y => c ^^^ y.toNat) c = l.foldl (fun c y => c ^^^ y.toNat) c ^^^ m := by
  induction l generalizing c i with
  | nil => simp at hi
  | cons y l ih =>
    cases i with
    | zero =>
      simp only [List.set_cons_zero, List.foldl_cons]
      rw [hv]
      simp only [List.getElem_cons_zero]
      rw [← Nat.xor_assoc, fold_xor]
    | succ i =>
      simp only [List.set_cons_succ, List.foldl_cons]
      exact ih _ i (by simpa using hi) (by simpa using hv)
theorem xor_ne (a m : Nat) (hm : m ≠ 0) : a ^^^ m ≠ a := by
  intro h
  have : a ^^^ (a ^^^ m) = a ^^^ a := by rw [h]
  rw [← Nat.xor_assoc, Nat.xor_self, Nat.zero_xor] at this
  exact hm this
theorem turned (x y z t : Int) (i : Nat) (m : Int) (hi : i < 8) (h0 : 0 < m) (h1 : m < 256) (b : List Int) (hb : b = (blk x y z t).set i (Go.bits .xor .u8 (rd (blk x y z t) (i : Int)) m)) : b.length = 8 ∧ isBytes b ∧ tells b = none := by
  obtain ⟨hl, hby⟩ := blk_ok x y z t
  have hr : rd (blk x y z t) (i : Int) = (blk x y z t)[i]'(by omega) := by unfold rd; simp [List.getD_eq_getElem?_getD, show i < (blk x y z t).length by omega]
  have hv := hby _ (List.getElem_mem (show i < (blk x y z t).length by omega))
  rw [hr, u8_xor _ _ hv.1 hv.2 (by omega) h1] at hb
  have hlt : ((blk x y z t)[i]'(by omega)).toNat ^^^ m.toNat < 256 := Nat.xor_lt_two_pow (n := 8) (by omega) (by omega)
  refine ⟨by rw [hb, List.length_set, hl], ?_, ?_⟩
  · intro a ha
    rw [hb] at ha
    rcases List.mem_or_eq_of_mem_set ha with h | h
    · exact hby a h
    · subst h; omega
  · unfold tells
    rw [if_neg]
    have hck := ck_lt _ (seven_bytes x y z t)
    by_cases h7 : i = 7
    · subst h7
      have e1 : b.take 7 = seven x y z t := by rw [hb]; rfl
      have e2 : rd b 7 = ((ck (seven x y z t) ^^^ m.toNat : Nat) : Int) := by
        rw [hb]
        show ((((ck (seven x y z t) : Nat) : Int).toNat ^^^ m.toNat : Nat) : Int) = _
        rw [Int.toNat_natCast]
      rw [e1, e2]
      have := xor_ne (ck (seven x y z t)) m.toNat (by omega)
      omega
    · have hi7 : i < 7 := by omega
      have e1 : b.take 7 = (seven x y z t).set i (((blk x y z t)[i]'(by omega)).toNat ^^^ m.toNat : Nat) := by
        rw [hb, List.take_set]
        rfl
      have e2 : rd b 7 = ((ck (seven x y z t) : Nat) : Int) := by
        rw [hb]
        unfold rd
        rw [List.getD_eq_getElem?_getD, List.getElem?_set_ne (by simp; omega)]
        rfl
      have e3 : (blk x y z t)[i]'(by omega) = (seven x y z t)[i]'(by show i < 7; omega) := List.getElem_append_left _
      rw [e1, e2]
      have := fold_set (seven x y z t) 90 m.toNat i (by show i < 7; omega) (((blk x y z t)[i]'(by omega)).toNat ^^^ m.toNat : Nat) (by rw [Int.toNat_natCast, e3])
      have e4 : ck ((seven x y z t).set i (((blk x y z t)[i]'(by omega)).toNat ^^^ m.toNat : Nat)) = ck (seven x y z t) ^^^ m.toNat := this
      rw [e4]
      have := xor_ne (ck (seven x y z t)) m.toNat (by omega)
      omega
theorem in_f (x a b : Int) : gimbalref8_in.f x a b = some (decide (a ≤ x ∧ x ≤ b)) := by
  unfold gimbalref8_in.f
  by_cases h : x ≥ a
  · rw [if_pos h]
    congr 1
    rw [decide_eq_decide]
    omega
  · rw [if_neg h, decide_eq_false (by omega)]
theorem may_raw (x y z t : Int) : ∃ r, gimbalref8_MayRaw.f x y z t = some r ∧ (r = true → (-32768 ≤ x ∧ x ≤ 32767) ∧ (-32768 ≤ y ∧ y ≤ 32767) ∧ (-32768 ≤ z ∧ z ≤ 32767) ∧ (-128 ≤ t ∧ t ≤ 127)) := by
  unfold gimbalref8_MayRaw.f
  simp only [in_f, Option.bind_some, decide_eq_true_eq]
  split
  · split
    · split
      · exact ⟨_, rfl, fun h => ⟨by assumption, by assumption, by assumption, of_decide_eq_true h⟩⟩
      · exact ⟨_, rfl, fun h => by cases h⟩
    · exact ⟨_, rfl, fun h => by cases h⟩
  · exact ⟨_, rfl, fun h => by cases h⟩
theorem eq_l0 (l : List (S55)) (hl : l.length < 4611686018427387904) (d : Nat) : ∀ (k i : Nat), i + d = l.length → d < k → gimbalref0_EqRaws.l0 k l l (i : Int) = some true := by
  induction d with
  | zero =>
    intro k i hi hk
    obtain ⟨k, rfl⟩ : ∃ m, k = m + 1 := ⟨k - 1, by omega⟩
    simp only [gimbalref0_EqRaws.l0]
    rw [if_neg (by omega)]
  | succ d ih =>
    intro k i hi hk
    obtain ⟨k, rfl⟩ : ∃ m, k = m + 1 := ⟨k - 1, by omega⟩
    simp only [gimbalref0_EqRaws.l0]
    rw [if_pos (by omega), if_pos (by omega), if_pos (by omega), if_neg (by simp), w64 (by omega) (by omega), show ((i : Int) + 1) = ((i + 1 : Nat) : Int) by omega]
    exact ih k (i + 1) (by omega) (by omega)
theorem eq_f (l : List (S55)) (hl : l.length < 4611686018427387904) (k : Nat) (hk : l.length < k) : gimbalref0_EqRaws.f k l l = some true := by
  unfold gimbalref0_EqRaws.f
  rw [if_pos rfl]
  exact eq_l0 l hl l.length k 0 (by omega) (by omega)
theorem take_burst (n : Nat) (h1 : 1 ≤ n) (h2 : n ≤ 16) (bs : List (List Int)) (hn : bs.length = n) (hb : ∀ b ∈ bs, b.length = 8 ∧ isBytes b) (k : Nat) (hk : n + 9 < k) :
    drv_Take.f k 16 49 true 7 5 0 false (n : Int) 0 1 bs.flatten = some (16, 49, true, 7, 4, 0, false, 0, badN 0 (n - (bs.filterMap tells).length), bs.filterMap tells, false, 0) := by
  have hg : Dr.goodD 16 49 7 5 0 (n : Int) 0 = true := decide_eq_true (by omega)
  have hfl : bs.flatten.length = 8 * n := by
    subst hn
    clear h1 h2 hk hg
    induction bs with
    | nil => rfl
    | cons b bs ih => rw [List.flatten_cons, List.length_append, (hb b (by simp)).1, ih (fun c hc => hb c (by simp [hc])), List.length_cons]; omega
  have hN : drv_Next.f 16 49 true 7 5 0 false (n : Int) 0 = some (16, 4, [], 8 * (n : Int), true, 0) := by
    unfold drv_Next.f
    rw [if_pos hg, if_neg (by decide), if_neg (by decide), if_neg (by decide), if_neg (by decide), if_pos rfl]
  obtain ⟨k, rfl⟩ : ∃ m, k = m + 1 := ⟨k - 1, by omega⟩
  have hG : drv_good.f (k + 1) 16 49 true 7 5 0 false (n : Int) 0 16 4 [] (8 * (n : Int)) 1 bs.flatten = some true := by
    unfold drv_good.f
    rw [if_pos rfl]
    simp only [drv_good.j0]
    rw [show ((bs.flatten.length : Int) != 8 * (n : Int)) = false from bne_eq_false_iff_eq.mpr (by omega), if_neg (by decide), if_neg (by decide), if_neg (by decide)]
  unfold drv_Take.f
  rw [hN]
  simp only [Option.bind_some, if_true]
  rw [hG]
  simp only [Option.bind_some, if_true]
  unfold drv_row.f drv_samples.f
  rw [if_neg (by decide), if_pos rfl, samples_l0 16 49 true 7 5 0 false (n : Int) bs (k + 1) [] 0 hb (by omega) (by simp; omega) (by omega) (by omega)]
  simp only [Option.bind_some, List.nil_append, hn]
theorem loop (L : List (S55)) (N : Int) (h1 : 1 ≤ L.length) (h2 : L.length ≤ 16) (d : Nat) : ∀ (k : Nat) (bs : List (List Int)), bs.length + d = L.length → d + 60 < k → (∀ b ∈ bs, b.length = 8 ∧ isBytes b) →
    gimballaw9_DrvSamples.l0 k bs.flatten (bs.filterMap tells) ((bs.length - (bs.filterMap tells).length : Nat) : Int) (bs.length : Int) L N = some true := by
  induction d with
  | zero =>
    intro k bs hd hk hb
    obtain ⟨k, rfl⟩ : ∃ m, k = m + 1 := ⟨k - 1, by omega⟩
    have hle := List.length_filterMap_le tells bs
    simp only [gimballaw9_DrvSamples.l0]
    rw [if_neg (by omega), take_burst L.length h1 h2 bs (by omega) hb k (by omega)]
    simp only [Option.bind_some, gimballaw9_num.f, if_true, Bool.false_eq_true, if_false]
    rw [if_pos (by unfold badN; split <;> omega), eq_f _ (by omega) k (by omega)]
    simp [gimballaw9_wakes.f]
  | succ d ih =>
    intro k bs hd hk hb
    obtain ⟨k, rfl⟩ : ∃ m, k = m + 1 := ⟨k - 1, by omega⟩
    have hle := List.length_filterMap_le tells bs
    have hfl : ∀ cs : List (List Int), (∀ b ∈ cs, b.length = 8 ∧ isBytes b) → cs.flatten.length = 8 * cs.length := by
      intro cs hcs
      induction cs with
      | nil => rfl
      | cons b cs ih2 => rw [List.flatten_cons, List.length_append, (hcs b (by simp)).1, ih2 (fun c hc => hcs c (by simp [hc])), List.length_cons]; omega
    have hf := hfl bs hb
    simp only [gimballaw9_DrvSamples.l0]
    rw [if_pos (by omega), if_pos (by omega)]
    generalize rd_T55 L (bs.length : Int) = r
    obtain ⟨m, hm, hmt⟩ := may_raw r.f0 r.f1 r.f2 r.f3
    rw [hm]
    simp only [Option.bind_some]
    cases m with
    | false => rw [if_neg (by decide)]
    | true =>
      rw [if_pos rfl]
      obtain ⟨b0, b1, b2, b3⟩ := hmt rfl
      rw [bytes_f _ _ _ _ k (by omega)]
      simp only [Option.bind_some]
      obtain ⟨t1, e1, _, _⟩ := within_f (wrap64 (N + (bs.length : Int))) 4 (by omega) (by omega)
      rw [e1]
      simp only [Option.bind_some]
      have hb8 := blk_ok r.f0 r.f1 r.f2 r.f3
      by_cases ht : t1 = 0
      · rw [if_pos ht]
        obtain ⟨t2, e2, q0, q1⟩ := within_f N 8 (by omega) (by omega)
        rw [e2]
        simp only [Option.bind_some]
        rw [if_pos q0, if_pos (by rw [hb8.1]; omega)]
        obtain ⟨t3, e3, p0, p1⟩ := within_f N 255 (by omega) (by omega)
        rw [e3]
        simp only [Option.bind_some]
        obtain ⟨i, rfl⟩ := Int.eq_ofNat_of_zero_le q0
        rw [w64 (by omega) (by omega), show (1 + t3) % 256 = 1 + t3 by omega, Int.toNat_natCast]
        obtain ⟨c1, c2, c3⟩ := turned r.f0 r.f1 r.f2 r.f3 i (1 + t3) (by omega) (by omega) (by omega) _ rfl
        generalize hnb : (blk r.f0 r.f1 r.f2 r.f3).set i (Go.bits .xor .u8 (rd (blk r.f0 r.f1 r.f2 r.f3) (i : Int)) (1 + t3)) = nb at c1 c2 c3
        rw [if_pos (by omega)]
        have hbs : ∀ b ∈ bs ++ [nb], b.length = 8 ∧ isBytes b := by
          intro b hm
          rcases List.mem_append.1 hm with h | h
          · exact hb b h
          · simp only [List.mem_cons, List.not_mem_nil, or_false] at h
            subst h
            exact ⟨c1, c2⟩
        have hfm : (bs ++ [nb]).filterMap tells = bs.filterMap tells := by rw [List.filterMap_append]; simp [c3]
        have hrec := ih k (bs ++ [nb]) (by simp; omega) (by omega) hbs
        rw [hfm, List.flatten_append, List.length_append] at hrec
        simp only [List.flatten_cons, List.flatten_nil, List.append_nil, List.length_cons, List.length_nil] at hrec
        rw [w64 (by omega) (by omega), w64 (by omega) (by omega)]
        rw [show ((bs.length - (bs.filterMap tells).length : Nat) : Int) + 1 = ((bs.length + (0 + 1) - (bs.filterMap tells).length : Nat) : Int) by omega, show (bs.length : Int) + 1 = ((bs.length + (0 + 1) : Nat) : Int) by omega]
        exact hrec
      · rw [if_neg ht, if_pos (by omega), if_pos (by omega)]
        have ht2 := blk_tells r.f0 r.f1 r.f2 r.f3 b0 b1 b2 b3
        generalize blk r.f0 r.f1 r.f2 r.f3 = nb at hb8 ht2
        have hbs : ∀ b ∈ bs ++ [nb], b.length = 8 ∧ isBytes b := by
          intro b hm
          rcases List.mem_append.1 hm with h | h
          · exact hb b h
          · simp only [List.mem_cons, List.not_mem_nil, or_false] at h
            subst h
            exact hb8
        have hfm : (bs ++ [nb]).filterMap tells = bs.filterMap tells ++ [⟨r.f0, r.f1, r.f2, r.f3⟩] := by rw [List.filterMap_append]; simp [ht2]
        have hrec := ih k (bs ++ [nb]) (by simp; omega) (by omega) hbs
        rw [hfm, List.flatten_append, List.length_append, List.length_append] at hrec
        simp only [List.flatten_cons, List.flatten_nil, List.append_nil, List.length_cons, List.length_nil] at hrec
        rw [w64 (by omega) (by omega)]
        rw [show ((bs.length - (bs.filterMap tells).length : Nat) : Int) = ((bs.length + (0 + 1) - ((bs.filterMap tells).length + (0 + 1)) : Nat) : Int) by omega, show (bs.length : Int) + 1 = ((bs.length + (0 + 1) : Nat) : Int) by omega]
        exact hrec
theorem DrvSamples : gimballaw9_DrvSamples.Pure := by
  intro p hp
  refine ⟨200, ?_⟩
  unfold gimballaw9_DrvSamples.f
  by_cases h0 : (p.f0.length : Int) = 0
  · rw [if_pos h0]
    rfl
  · rw [if_neg h0]
    simp only [gimballaw9_DrvSamples.j0, decide_eq_true_eq]
    by_cases h1 : (p.f0.length : Int) > 16
    · rw [if_pos h1]
    · rw [if_neg h1]
      exact loop p.f0 p.f1 (by omega) (by omega) p.f0.length 199 [] (by simp) (by omega) (fun b hb => by simp at hb)
end Go.Proofs.Ytnlmbejkemkkoaa.Pure
