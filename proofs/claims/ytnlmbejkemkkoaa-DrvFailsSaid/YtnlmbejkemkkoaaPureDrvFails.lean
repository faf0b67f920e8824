/-
  The pure law of DrvFails: a driver whose answers fail asks for a reset, then fails; and only so.
  No conditions.
-/
import Derived.Test.YtnlmbejkemkkoaaSpecDrvFails
import Derived.Test.YtnlmbejkemkkoaaOpens
import Derived.Laws.BitsAllLaws
namespace Go.Proofs.Ytnlmbejkemkkoaa.Pure
open Go.RowKit Go.Proofs.Ytnlmbejkemkkoaa.Op Go.Proofs.Ytnlmbejkemkkoaa Go.Proofs.Ytnlmbejkemkkoaa.PDrvFails Go.Proofs.YtnlmbejkemkkoaaW.PrintWords Go.Proofs.YtnlmbejkemkkoaaW.PrintLast Go.Proofs.YtnlmbejkemkkoaaW.PrintMore
theorem w64 {x : Int} (h : -9223372036854775808 ≤ x) (h2 : x < 9223372036854775808) : wrap64 x = x := by
  unfold wrap64
  omega
theorem w64s (n : Nat) (h : n < 9223372036854775807) : wrap64 ((n : Int) + 1) = ((n + 1 : Nat) : Int) := by
  rw [w64 (by omega) (by omega)]
  omega
/-- The check of bytes: all of them, turned into 90. -/
def ck (l : List Int) : Nat := l.foldl (fun c y => c ^^^ y.toNat) 90
def isBytes (l : List Int) : Prop := ∀ y ∈ l, 0 ≤ y ∧ y < 256
theorem fold_lt (l : List Int) (h : isBytes l) (c : Nat) (hc : c < 256) : l.foldl (fun c y => c ^^^ y.toNat) c < 256 := by
  induction l generalizing c with
  | nil => exact hc
  | cons y l ih =>
    have hy := h y (by simp)
    exact ih (fun z hz => h z (by simp [hz])) _ (Nat.xor_lt_two_pow (n := 8) hc (by omega))
theorem ck_lt (l : List Int) (h : isBytes l) : ck l < 256 := fold_lt l h 90 (by decide)
theorem check_l0 (l : List Int) (h : isBytes l) (hn : l.length < 1000) (d : Nat) : ∀ (k i c : Nat), i + d = l.length → d < k → c < 256 → bus_Check.l0 k (c : Int) l (l.length : Int) (i : Int) = some (((l.drop i).foldl (fun c y => c ^^^ y.toNat) c : Nat) : Int) := by
  induction d with
  | zero =>
    intro k i c hi hk hc
    obtain ⟨k, rfl⟩ : ∃ m, k = m + 1 := ⟨k - 1, by omega⟩
    simp only [bus_Check.l0]
    rw [if_neg (by omega), List.drop_eq_nil_of_le (by omega)]
    rfl
  | succ d ih =>
    intro k i c hi hk hc
    obtain ⟨k, rfl⟩ : ∃ m, k = m + 1 := ⟨k - 1, by omega⟩
    have hlt : i < l.length := by omega
    have hy := h l[i] (List.getElem_mem hlt)
    have hr : rd l (i : Int) = l[i] := by unfold rd; simp [List.getD_eq_getElem?_getD, hlt]
    simp only [bus_Check.l0]
    rw [if_pos (by omega), if_pos (by omega), if_pos (by omega), hr, u8_xor _ _ (by omega) (by omega) hy.1 hy.2, w64 (by omega) (by omega), Int.toNat_natCast]
    rw [show ((i : Int) + 1) = ((i + 1 : Nat) : Int) by omega, ih k (i + 1) _ (by omega) (by omega) (Nat.xor_lt_two_pow (n := 8) hc (by omega))]
    rw [← List.getElem_cons_drop hlt]
    rfl
theorem check_f (l : List Int) (h : isBytes l) (hn : l.length < 1000) (k : Nat) (hk : l.length < k) : bus_Check.f k l = some ((ck l : Nat) : Int) := by
  have := check_l0 l h hn l.length k 0 90 (by omega) (by omega) (by decide)
  exact this
theorem number_f (l : List Int) (h : isBytes l) (hn : 2 ≤ l.length) : drv_number.f l = some (wrap64 (IntKind.i16.wrap (rd l 0 * 256 + rd l 1))) := by
  have g : ∀ i : Nat, i < l.length → 0 ≤ rd l (i : Int) ∧ rd l (i : Int) < 256 := fun i hi => by
    have : rd l (i : Int) = l[i] := by unfold rd; simp [List.getD_eq_getElem?_getD, hi]
    rw [this]
    exact h _ (List.getElem_mem hi)
  have h0 := g 0 (by omega)
  have h1 := g 1 (by omega)
  simp only [Int.ofNat_zero, Int.natCast_one] at h0 h1
  generalize hA : rd l 0 = A at h0
  generalize hB : rd l 1 = B at h1
  unfold drv_number.f
  rw [if_pos (by omega), if_pos (by omega), hA, hB]
  have e1 : IntKind.u16.wrap A = A := by rw [IntKind.wrap_u16]; omega
  have e2 : IntKind.u16.wrap B = B := by rw [IntKind.wrap_u16]; omega
  have e3 : IntKind.u16.wrap (A * 256) = A * 256 := by rw [IntKind.wrap_u16]; omega
  rw [e1, e2, e3, u16_or _ _ (by omega) (by omega) (by omega) (by omega)]
  have e4 : (A * 256).toNat ||| B.toNat = (A * 256).toNat + B.toNat := by
    obtain ⟨a, rfl⟩ := Int.eq_ofNat_of_zero_le h0.1
    obtain ⟨b, rfl⟩ := Int.eq_ofNat_of_zero_le h1.1
    rw [Int.toNat_natCast, show ((a : Int) * 256).toNat = 2 ^ 8 * a by omega]
    rw [Nat.two_pow_add_eq_or_of_lt (by omega)]
  rw [e4]
  congr 3
  omega
/-- A block of eight bytes, and what it tells. -/
def dec (b : List Int) : S55 := ⟨wrap64 (IntKind.i16.wrap (rd b 0 * 256 + rd b 1)), wrap64 (IntKind.i16.wrap (rd b 2 * 256 + rd b 3)), wrap64 (IntKind.i16.wrap (rd b 4 * 256 + rd b 5)), wrap64 (IntKind.i8.wrap (rd b 6))⟩
def tells (b : List Int) : Option (S55) := if ((ck (b.take 7) : Nat) : Int) = rd b 7 then some (dec b) else none
def badN (q : Int) (n : Nat) : Int := if q + n ≤ 1099511627776 then q + n else 1099511627776
theorem rd_drop (l : List Int) (m : Nat) (i : Nat) : rd (l.drop m) (i : Int) = rd l ((m + i : Nat) : Int) := by
  unfold rd
  rw [Int.toNat_natCast, Int.toNat_natCast, List.getD_eq_getElem?_getD, List.getD_eq_getElem?_getD, List.getElem?_drop]
theorem rd_left (a b : List Int) (i : Nat) (h : i < a.length) : rd (a ++ b) (i : Int) = rd a (i : Int) := by
  unfold rd
  rw [Int.toNat_natCast, List.getD_eq_getElem?_getD, List.getD_eq_getElem?_getD, List.getElem?_append_left h]
theorem bytes_app {a b : List Int} (ha : isBytes a) (hb : isBytes b) : isBytes (a ++ b) := fun y hy => by
  rcases List.mem_append.1 hy with h | h
  · exact ha y h
  · exact hb y h
theorem bytes_drop {a : List Int} (ha : isBytes a) (n : Nat) : isBytes (a.drop n) := fun y hy => ha y (List.mem_of_mem_drop hy)
theorem bytes_take {a : List Int} (ha : isBytes a) (n : Nat) : isBytes (a.take n) := fun y hy => ha y (List.mem_of_mem_take hy)
theorem bytes_flat {bs : List (List Int)} (h : ∀ b ∈ bs, b.length = 8 ∧ isBytes b) : isBytes bs.flatten := fun y hy => by
  obtain ⟨b, hb, hyb⟩ := List.mem_flatten.1 hy
  exact (h b hb).2 y hyb
theorem samples_l0 (d0 d1 : Int) (d2 : Bool) (d3 d4 d5 : Int) (d6 : Bool) (d7 : Int) (bs : List (List Int)) : ∀ (k : Nat) (acc : List (S55)) (q : Int), (∀ b ∈ bs, b.length = 8 ∧ isBytes b) → bs.length + 8 < k → acc.length + bs.length < 4398046511104 → 0 ≤ q → q ≤ 1099511627776 →
    drv_samples.l0 k bs.flatten acc d0 d1 d2 d3 d4 d5 d6 d7 q = some (d0, d1, d2, d3, 4, d5, d6, 0, badN q (bs.length - (bs.filterMap tells).length), acc ++ bs.filterMap tells) := by
  induction bs with
  | nil =>
    intro k acc q _ hk _ h0 h1
    obtain ⟨k, rfl⟩ : ∃ m, k = m + 1 := ⟨k - 1, by omega⟩
    simp only [drv_samples.l0, List.flatten_nil, List.length_nil]
    rw [if_neg (by simp)]
    simp only [List.filterMap_nil, List.length_nil, List.append_nil]
    unfold badN
    rw [if_pos (by omega)]
    simp
  | cons b bs ih =>
    intro k acc q hb hk ha h0 h1
    obtain ⟨k, rfl⟩ : ∃ m, k = m + 1 := ⟨k - 1, by omega⟩
    obtain ⟨hlen, hby⟩ := hb b (by simp)
    have hrest : ∀ c ∈ bs, c.length = 8 ∧ isBytes c := fun c hc => hb c (by simp [hc])
    have hfl : isBytes (b ++ bs.flatten) := bytes_app hby (bytes_flat hrest)
    have hll : (b ++ bs.flatten).length = 8 + bs.flatten.length := by rw [List.length_append, hlen]
    have htk : (b ++ bs.flatten).take 7 = b.take 7 := by rw [List.take_append_of_le_length (by omega)]
    have hdr : (b ++ bs.flatten).drop 8 = bs.flatten := by rw [← hlen, List.drop_left]
    have r : ∀ i : Nat, i < 8 → rd (b ++ bs.flatten) (i : Int) = rd b (i : Int) := fun i hi => rd_left _ _ i (by omega)
    have r7 := r 7 (by omega)
    have r6 := r 6 (by omega)
    have hfm : (b :: bs).filterMap tells = (tells b).toList ++ bs.filterMap tells := by
      rw [List.filterMap_cons]
      cases tells b <;> rfl
    have hle := List.length_filterMap_le tells bs
    simp only [drv_samples.l0, List.flatten_cons]
    rw [if_pos (by omega), if_pos (by omega), htk, check_f (b.take 7) (bytes_take hby 7) (by rw [List.length_take]; omega) k (by rw [List.length_take]; omega)]
    simp only [Option.bind_some]
    rw [if_pos (by omega), show rd (b ++ bs.flatten) 7 = rd b 7 from r7, hdr]
    have hck : (if (8 : Int) ≤ ((b ++ bs.flatten).length : Int) then drv_samples.l0 k bs.flatten acc d0 d1 d2 d3 d4 d5 d6 d7 (mn (wrap64 (q + 1)) 1099511627776) else none) = drv_samples.l0 k bs.flatten acc d0 d1 d2 d3 d4 d5 d6 d7 (mn (wrap64 (q + 1)) 1099511627776) := if_pos (by omega)
    by_cases hc : ((ck (b.take 7) : Nat) : Int) = rd b 7
    · have ht : tells b = some (dec b) := if_pos hc
      rw [if_pos hc, number_f _ hfl (by omega)]
      simp only [Option.bind_some]
      rw [if_pos (by omega), number_f _ (bytes_drop hfl 2) (by rw [List.length_drop]; omega)]
      simp only [Option.bind_some]
      rw [if_pos (by omega), number_f _ (bytes_drop hfl 4) (by rw [List.length_drop]; omega)]
      simp only [Option.bind_some]
      rw [if_pos (by omega), if_pos (by omega), if_pos (by omega)]
      have e0 := r 0 (by omega)
      have e1 := r 1 (by omega)
      have e2 := (rd_drop (b ++ bs.flatten) 2 0).trans (r 2 (by omega))
      have e3 := (rd_drop (b ++ bs.flatten) 2 1).trans (r 3 (by omega))
      have e4 := (rd_drop (b ++ bs.flatten) 4 0).trans (r 4 (by omega))
      have e5 := (rd_drop (b ++ bs.flatten) 4 1).trans (r 5 (by omega))
      rw [show rd (b ++ bs.flatten) 0 = rd b 0 from e0, show rd (b ++ bs.flatten) 1 = rd b 1 from e1, show rd ((b ++ bs.flatten).drop 2) 0 = rd b 2 from e2, show rd ((b ++ bs.flatten).drop 2) 1 = rd b 3 from e3, show rd ((b ++ bs.flatten).drop 4) 0 = rd b 4 from e4, show rd ((b ++ bs.flatten).drop 4) 1 = rd b 5 from e5, show rd (b ++ bs.flatten) 6 = rd b 6 from r6]
      rw [ih k _ q hrest (by simp only [List.length_cons] at hk; omega) (by simp only [List.length_append, List.length_cons, List.length_nil] at ha ⊢; omega) h0 h1]
      rw [hfm, ht]
      simp only [Option.toList_some, List.length_append, List.length_cons, List.length_nil, List.append_assoc]
      rw [show bs.length + 1 - (0 + 1 + (bs.filterMap tells).length) = bs.length - (bs.filterMap tells).length by omega]
      rfl
    · have ht : tells b = none := if_neg hc
      rw [if_neg hc, if_pos (by omega)]
      have hmn : mn (wrap64 (q + 1)) 1099511627776 = badN q 1 := by
        rw [w64 (by omega) (by omega)]
        unfold mn badN
        split <;> split <;> omega
      rw [hmn, ih k acc (badN q 1) hrest (by simp only [List.length_cons] at hk; omega) (by simp only [List.length_cons] at ha; omega) (by unfold badN; split <;> omega) (by unfold badN; split <;> omega)]
      rw [hfm, ht]
      simp only [Option.toList_none, List.nil_append, List.length_cons]
      have e : badN (badN q 1) (bs.length - (bs.filterMap tells).length) = badN q (bs.length + 1 - (bs.filterMap tells).length) := by
        unfold badN
        split <;> split <;> split <;> omega
      rw [e]
theorem within_f (a n : Int) (h1 : 0 < n) (h2 : n ≤ 65536) : ∃ r, gimballaw0_Within.f a n = some r ∧ 0 ≤ r ∧ r < n := by
  have e : IntKind.u64.wrap n = n := by rw [IntKind.wrap_u64]; omega
  unfold gimballaw0_Within.f
  rw [e, if_neg (by omega)]
  have h3 : 0 ≤ IntKind.u64.wrap a := by rw [IntKind.wrap_u64]; omega
  have h4 := Int.emod_nonneg (IntKind.u64.wrap a) (by omega : n ≠ 0)
  have h5 := Int.emod_lt_of_pos (IntKind.u64.wrap a) h1
  rw [Int.tmod_eq_emod_of_nonneg h3, w64 (by omega) (by omega)]
  exact ⟨_, rfl, h4, h5⟩
theorem cut_blocks (n : Nat) : ∀ (l : List Int), isBytes l → l.length = 8 * n → ∃ bs : List (List Int), bs.flatten = l ∧ bs.length = n ∧ ∀ b ∈ bs, b.length = 8 ∧ isBytes b := by
  induction n with
  | zero =>
    intro l _ hl
    exact ⟨[], by rw [List.flatten_nil, List.eq_nil_of_length_eq_zero (show l.length = 0 by omega)], rfl, fun b hb => by simp at hb⟩
  | succ n ih =>
    intro l hb hl
    obtain ⟨bs, h1, h2, h3⟩ := ih (l.drop 8) (bytes_drop hb 8) (by rw [List.length_drop]; omega)
    refine ⟨l.take 8 :: bs, by rw [List.flatten_cons, h1, List.take_append_drop], by rw [List.length_cons, h2], fun b hm => ?_⟩
    rcases List.mem_cons.1 hm with rfl | hm
    · exact ⟨by rw [List.length_take]; omega, bytes_take hb 8⟩
    · exact h3 b hm
theorem drvSet_at (a i : Int) (p : Bool) (b s e : Int) (t : Bool) (l q : Int) (w : Bool) (n : Int) (hg : Dr.goodD a i b s e l q = true) (h1 : 1 ≤ n) (h2 : n ≤ 250) (k : Nat) :
    drv_Set.f (k + 6) a i p b s e t l q w n = some (a, i, w, n, Dr.setS s w (b != n), (if Dr.setS s w (b != n) = s then e else 0), t, (if Dr.setS s w (b != n) = s then l else 0), q, 0) := by
  have hc := Dr.goodD_iff hg
  have hs : s = 0 ∨ s = 1 ∨ s = 2 ∨ s = 3 ∨ s = 4 ∨ s = 5 ∨ s = 6 ∨ s = 7 ∨ s = 8 := by omega
  unfold drv_Set.f drv_Good.f
  rw [Option.bind_some, hg, if_pos rfl, if_neg (by omega), decide_eq_false (by omega)]
  clear hc hg
  have hb : (n != b) = (b != n) := by rw [bne_comm]
  by_cases hn : b = n
  · have hb1 : (b != n) = false := by rw [hn]; exact bne_self_eq_false _
    rw [hb1]
    rw [hb1] at hb
    rcases hs with rfl | rfl | rfl | rfl | rfl | rfl | rfl | rfl | rfl <;> cases w <;> simp [drv_Set.j0, drv_Set.j1, drv_Set.j2, drv_Set.j3, drv_Set.j4, Dr.setS, hb]
  · have hb1 : (b != n) = true := by simpa using hn
    rw [hb1]
    rw [hb1] at hb
    rcases hs with rfl | rfl | rfl | rfl | rfl | rfl | rfl | rfl | rfl <;> cases w <;> simp [drv_Set.j0, drv_Set.j1, drv_Set.j2, drv_Set.j3, drv_Set.j4, Dr.setS, hb]
theorem setS_good (a i : Int) (b s e l q : Int) (w o : Bool) (n : Int) (hg : Dr.goodD a i b s e l q = true) (h1 : 1 ≤ n) (h2 : n ≤ 250) :
    Dr.goodD a i n (Dr.setS s w o) (if Dr.setS s w o = s then e else 0) (if Dr.setS s w o = s then l else 0) q = true := by
  have hc := Dr.goodD_iff hg
  have hs : Dr.setS s w o = s ∨ (0 ≤ Dr.setS s w o ∧ Dr.setS s w o ≤ 8 ∧ Dr.setS s w o ≠ 5) := by
    unfold Dr.setS
    cases w <;> simp only [Bool.false_eq_true, if_true, if_false] <;> (repeat' split) <;> omega
  unfold Dr.goodD
  rw [decide_eq_true_iff]
  by_cases h : Dr.setS s w o = s
  · rw [if_pos h, if_pos h, h]
    omega
  · rw [if_neg h, if_neg h]
    omega
/-- How many bytes a state's answer has. -/
def rdn (s l : Int) : Int := if s = 1 then 1 else if s = 4 then 1 else if s = 5 then 8 * l else 0
def isGood (s l st : Int) (data : List Int) : Prop := st = 1 ∧ (data.length : Int) = rdn s l ∧ (s = 1 → rd data 0 = 49) ∧ (s = 4 → rd data 0 ≤ 16)
theorem next_at (w : Bool) (p s e : Int) (t : Bool) (l q : Int) (hg : Dr.goodD 16 49 p s e l q = true) (hs : 1 ≤ s ∧ s ≤ 7) : ∃ c bs, drv_Next.f 16 49 w p s e t l q = some (16, c, bs, rdn s l, true, 0) := by
  have hcase : s = 1 ∨ s = 2 ∨ s = 3 ∨ s = 4 ∨ s = 5 ∨ s = 6 ∨ s = 7 := by omega
  unfold drv_Next.f
  rw [if_pos hg]
  clear hg
  rcases hcase with rfl | rfl | rfl | rfl | rfl | rfl | rfl <;> exact ⟨_, _, rfl⟩
theorem next_none (w : Bool) (p s e : Int) (t : Bool) (l q : Int) (hg : Dr.goodD 16 49 p s e l q = true) (hs : s = 0 ∨ s = 8) : drv_Next.f 16 49 w p s e t l q = some (0, 0, [], 0, false, 0) := by
  unfold drv_Next.f
  rw [if_pos hg]
  clear hg
  rcases hs with rfl | rfl <;> rfl
theorem rd_byte (data : List Int) (hb : isBytes data) : 0 ≤ rd data 0 ∧ rd data 0 < 256 := by
  unfold rd
  cases data with
  | nil => exact ⟨Int.le_refl 0, by decide⟩
  | cons y l => exact hb y (by simp)
theorem good_at (w : Bool) (p s e : Int) (t : Bool) (l q st : Int) (data : List Int) (hb : isBytes data) (c : Int) (bs : List Int) (k : Nat) :
    ∃ g, drv_good.f (k + 1) 16 49 w p s e t l q 16 c bs (rdn s l) st data = some g ∧ (g = true ↔ isGood s l st data) := by
  have h0 := rd_byte data hb
  unfold drv_good.f isGood
  by_cases h1 : st = 1
  · rw [if_pos h1]
    simp only [drv_good.j0]
    by_cases h2 : (data.length : Int) = rdn s l
    · rw [show ((data.length : Int) != rdn s l) = false from bne_eq_false_iff_eq.mpr h2, if_neg (by decide)]
      by_cases h3 : s = 1
      · have hr : rdn s l = 1 := by unfold rdn; rw [if_pos h3]
        rw [if_pos h3, if_pos (by omega), w64 (by omega) (by omega)]
        refine ⟨_, rfl, ?_⟩
        rw [beq_iff_eq]
        exact ⟨fun h => ⟨h1, h2, fun _ => h, fun h => by omega⟩, fun h => h.2.2.1 h3⟩
      · rw [if_neg h3]
        by_cases h4 : s = 4
        · have hr : rdn s l = 1 := by unfold rdn; rw [if_neg h3, if_pos h4]
          rw [if_pos h4, if_pos (by omega), w64 (by omega) (by omega)]
          refine ⟨_, rfl, ?_⟩
          rw [decide_eq_true_iff]
          exact ⟨fun h => ⟨h1, h2, fun h => absurd h h3, fun _ => h⟩, fun h => h.2.2.2 h4⟩
        · rw [if_neg h4]
          exact ⟨_, rfl, fun _ => ⟨h1, h2, fun h => absurd h h3, fun h => absurd h h4⟩, fun _ => rfl⟩
    · rw [show ((data.length : Int) != rdn s l) = true from bne_iff_ne.mpr h2, if_pos rfl]
      exact ⟨_, rfl, fun h => (by cases h), fun h => absurd h.2.1 h2⟩
  · rw [if_neg h1]
    simp only [drv_good.j0, if_true]
    exact ⟨_, rfl, fun h => (by cases h), fun h => absurd h.1 h1⟩
theorem take_bad (w : Bool) (p s e : Int) (t : Bool) (l q st : Int) (data : List Int) (hb : isBytes data) (hg : Dr.goodD 16 49 p s e l q = true) (hs : 1 ≤ s ∧ s ≤ 7) (hn : ¬ isGood s l st data) (k : Nat) :
    ∃ s' e' l' fl, drv_Take.f (k + 1) 16 49 w p s e t l q st data = some (16, 49, w, p, s', e', t, l', q, [], fl, 0) ∧ Dr.goodD 16 49 p s' e' l' q = true ∧ fl = (s' == 8) ∧ (if s = 7 ∨ e = 2 then e' = 0 ∧ (s' = 8 → s = 7 ∨ t = true) else e' = e + 1 ∧ s' ≠ 8) := by
  obtain ⟨c, bs, hN⟩ := next_at w p s e t l q hg hs
  obtain ⟨g, hG, hgi⟩ := good_at w p s e t l q st data hb c bs k
  have hg0 : g = false := by
    cases g with
    | false => rfl
    | true => exact absurd (hgi.1 rfl) hn
  subst hg0
  have hc := Dr.goodD_iff hg
  unfold drv_Take.f
  rw [hN]
  simp only [Option.bind_some, if_true]
  rw [hG]
  simp only [Option.bind_some, Bool.false_eq_true, if_false]
  unfold drv_bad.f
  clear hN hG hgi hn
  by_cases h7 : s = 7
  · rw [if_pos h7]
    refine ⟨8, 0, 0, _, rfl, ?_, rfl, ?_⟩
    · unfold Dr.goodD; rw [decide_eq_true_iff]; omega
    · rw [if_pos (.inl h7)]; exact ⟨rfl, fun _ => .inl h7⟩
  · rw [if_neg h7, w64 (by omega) (by omega)]
    by_cases h3 : e + 1 = 3
    · rw [if_pos h3]
      cases t with
      | true =>
        rw [if_pos rfl]
        refine ⟨8, 0, 0, _, rfl, ?_, rfl, ?_⟩
        · unfold Dr.goodD; rw [decide_eq_true_iff]; omega
        · rw [if_pos (.inr (by omega))]; exact ⟨rfl, fun _ => .inr rfl⟩
      | false =>
        rw [if_neg (by decide)]
        refine ⟨7, 0, 0, _, rfl, ?_, rfl, ?_⟩
        · unfold Dr.goodD; rw [decide_eq_true_iff]; omega
        · rw [if_pos (.inr (by omega))]; exact ⟨rfl, fun h => by omega⟩
    · rw [if_neg h3]
      refine ⟨s, e + 1, l, _, rfl, ?_, ?_, ?_⟩
      · unfold Dr.goodD; rw [decide_eq_true_iff]; omega
      · exact (beq_eq_false_iff_ne.mpr (by omega)).symm
      · rw [if_neg (by omega)]; exact ⟨rfl, by omega⟩
theorem take_good (w : Bool) (p s e : Int) (t : Bool) (l q st : Int) (data : List Int) (hb : isBytes data) (hg : Dr.goodD 16 49 p s e l q = true) (hs : 1 ≤ s ∧ s ≤ 7) (hn : isGood s l st data) (k : Nat) (hk : 30 < k) :
    ∃ s' t' l' q' raws, drv_Take.f (k + 1) 16 49 w p s e t l q st data = some (16, 49, w, p, s', 0, t', l', q', raws, false, 0) ∧ Dr.goodD 16 49 p s' 0 l' q' = true ∧ s' ≠ 8 ∧
      t' = (if s' = 0 ∨ (s = 3 ∧ s' = 4) then false else if s = 7 then true else t) := by
  obtain ⟨c, bs, hN⟩ := next_at w p s e t l q hg hs
  obtain ⟨g, hG, hgi⟩ := good_at w p s e t l q st data hb c bs k
  obtain rfl := hgi.2 hn
  have hc := Dr.goodD_iff hg
  have h0 := rd_byte data hb
  obtain ⟨n1, n2, n3, n4⟩ := hn
  unfold drv_Take.f
  rw [hN]
  simp only [Option.bind_some, if_true]
  rw [hG]
  simp only [Option.bind_some, if_true]
  clear hN hG hgi
  have hcase : s = 1 ∨ s = 2 ∨ s = 3 ∨ s = 4 ∨ s = 5 ∨ s = 6 ∨ s = 7 := by omega
  have hgd : ∀ s' l' q' : Int, 0 ≤ s' ∧ s' ≤ 8 → 0 ≤ q' ∧ q' ≤ 1099511627776 → (s' = 5 → 1 ≤ l' ∧ l' ≤ 16) → (s' ≠ 5 → l' = 0) → Dr.goodD 16 49 p s' 0 l' q' = true := by
    intro s' l' q' h1 h2 h3 h4
    unfold Dr.goodD
    rw [decide_eq_true_iff]
    exact ⟨by omega, by omega, by omega, by omega, by omega, by omega, h1.1, h1.2, by omega, by omega, h2.1, h2.2, h3, h4⟩
  rcases hcase with rfl | rfl | rfl | rfl | rfl | rfl | rfl
  · unfold drv_row.f drv_next.f
    rw [if_neg (by decide), if_neg (by decide), if_neg (by decide), if_neg (by decide), w64 (by omega) (by omega)]
    exact ⟨2, t, l, q, [], rfl, hgd _ _ _ (by omega) (by omega) (by omega) (by omega), by decide, by simp⟩
  · unfold drv_row.f drv_next.f
    rw [if_neg (by decide), if_neg (by decide), if_neg (by decide), if_neg (by decide), w64 (by omega) (by omega)]
    exact ⟨3, t, l, q, [], rfl, hgd _ _ _ (by omega) (by omega) (by omega) (by omega), by decide, by simp⟩
  · unfold drv_row.f drv_next.f
    rw [if_neg (by decide), if_neg (by decide), if_neg (by decide), if_neg (by decide), w64 (by omega) (by omega)]
    exact ⟨4, false, l, q, [], rfl, hgd _ _ _ (by omega) (by omega) (by omega) (by omega), by decide, by simp⟩
  · have hl : (data.length : Int) = 1 := n2
    have hd := n4 rfl
    unfold drv_row.f drv_counted.f
    rw [if_pos rfl, if_pos (by omega), w64 (by omega) (by omega)]
    by_cases hz : rd data 0 > 0
    · rw [if_pos hz]
      exact ⟨5, t, rd data 0, q, [], rfl, hgd _ _ _ (by omega) (by omega) (by omega) (by omega), by decide, by simp⟩
    · rw [if_neg hz]
      exact ⟨4, t, l, q, [], rfl, hgd _ _ _ (by omega) (by omega) (by omega) (by omega), by decide, by simp⟩
  · have hl : (data.length : Int) = 8 * l := n2
    obtain ⟨n, rfl⟩ : ∃ n : Nat, l = n := ⟨l.toNat, by omega⟩
    obtain ⟨bs', rfl, hbl, hbb⟩ := cut_blocks n data hb (by omega)
    unfold drv_row.f drv_samples.f
    rw [if_neg (by decide), if_pos rfl, samples_l0 16 49 w p 5 0 t (n : Int) bs' (k + 1) [] q hbb (by omega) (by simp; omega) (by omega) (by omega)]
    simp only [Option.bind_some, List.nil_append]
    exact ⟨4, t, 0, _, _, rfl, hgd _ _ _ (by omega) (by unfold badN; split <;> omega) (by omega) (by omega), by decide, by simp⟩
  · exact ⟨0, false, l, q, [], rfl, hgd _ _ _ (by omega) (by omega) (by omega) (by omega), by decide, by simp⟩
  · unfold drv_row.f drv_again.f
    cases w with
    | true => exact ⟨1, true, l, q, [], rfl, hgd _ _ _ (by omega) (by omega) (by omega) (by omega), by decide, by simp⟩
    | false => exact ⟨6, true, l, q, [], rfl, hgd _ _ _ (by omega) (by omega) (by omega) (by omega), by decide, by simp⟩
theorem behind4 (L : List (S29)) (i : Nat) (hi : i < 1000) (K : Nat) (hK : 40 < K)
    (H : ∀ (k : Nat) (w : Bool) (p s e : Int) (t : Bool) (l q : Int), K ≤ k → Dr.goodD 16 49 p s e l q = true → gimballaw9_DrvFails.l0 k e t ((i + 1 : Nat) : Int) L 16 49 w p s e t l q = some true)
    (k : Nat) (hk : K + 3 ≤ k) (w : Bool) (p s e : Int) (t : Bool) (l q : Int) (hg : Dr.goodD 16 49 p s e l q = true) (hs : 1 ≤ s ∧ s ≤ 7) (g : Bool) (st : Int) (data : List Int) (hb : isBytes data) (hgood : g = true ↔ isGood s l st data)
    (x0 x1 : Int) (x2 : Bool) (x3 x4 x5 : Int) (x6 : Bool) (x7 x8 : Int) (x9 : Bool) (x10 : Int) :
    gimballaw9_DrvFails.j4 k e t (i : Int) g L 16 49 w p s e t l q x0 x1 x2 x3 x4 x5 x6 x7 x8 x9 x10 st data = some true := by
  obtain ⟨k, rfl⟩ : ∃ m, k = m + 4 := ⟨k - 4, by omega⟩
  have hc := Dr.goodD_iff hg
  simp only [gimballaw9_DrvFails.j4]
  cases g with
  | true =>
    obtain ⟨s', t', l', q', raws, e1, e2, e3, e4⟩ := take_good w p s e t l q st data hb hg hs (hgood.1 rfl) (k + 2) (by omega)
    rw [e1]
    simp only [Option.bind_some, gimballaw9_num.f, if_true]
    have J : ∀ x : Bool, x = t' → gimballaw9_DrvFails.j5 (k + 3) 0 x (i : Int) true false L 16 49 w p s e t l q 16 49 w p s' 0 t' l' q' = some true := by
      intro x hx
      subst hx
      simp only [gimballaw9_DrvFails.j5]
      rw [show (false != (s' == 8)) = false by rw [beq_eq_false_iff_ne.mpr e3]; rfl, if_neg (by decide), if_neg (by decide)]
      simp only [gimballaw9_DrvFails.j6]
      rw [if_neg (by decide), if_pos trivial, w64 (by omega) (by omega), show (i : Int) + 1 = ((i + 1 : Nat) : Int) by omega]
      exact H _ _ _ _ _ _ _ _ (by omega) e2
    by_cases h7 : s = 7
    · rw [if_pos h7]
      by_cases h0 : s' = 0
      · rw [if_pos h0]; exact J _ (by rw [e4, if_pos (.inl h0)])
      · rw [if_neg h0, if_neg (by omega)]; exact J _ (by rw [e4, if_neg (by omega), if_pos h7])
    · rw [if_neg h7]
      by_cases h0 : s' = 0
      · rw [if_pos h0]; exact J _ (by rw [e4, if_pos (.inl h0)])
      · rw [if_neg h0]
        by_cases h3 : s = 3
        · rw [if_pos h3]
          by_cases h4 : s' = 4
          · rw [if_pos h4]; exact J _ (by rw [e4, if_pos (.inr ⟨h3, h4⟩)])
          · rw [if_neg h4]; exact J _ (by rw [e4, if_neg (by omega), if_neg h7])
        · rw [if_neg h3]; exact J _ (by rw [e4, if_neg (by omega), if_neg h7])
  | false =>
    have hn : ¬ isGood s l st data := fun h => by cases hgood.2 h
    obtain ⟨s', e', l', fl, e1, e2, e3, e4⟩ := take_bad w p s e t l q st data hb hg hs hn (k + 2)
    rw [e1]
    simp only [Option.bind_some, gimballaw9_num.f, if_true, Bool.false_eq_true, if_false]
    rw [w64 (by omega) (by omega)]
    have J : gimballaw9_DrvFails.j6 (k + 2) (e + 1) t (i : Int) false false L 16 49 w p s e t l q 16 49 w p s' e' t l' q = some true := by
      simp only [gimballaw9_DrvFails.j6]
      rw [if_neg (by decide), if_neg (by decide), w64 (by omega) (by omega), show (i : Int) + 1 = ((i + 1 : Nat) : Int) by omega]
      by_cases h7 : s = 7
      · rw [if_pos (.inl h7)] at e4
        rw [if_pos h7]
        have := e4.1
        subst this
        exact H _ _ _ _ _ _ _ _ (by omega) e2
      · rw [if_neg h7]
        by_cases h3 : e + 1 = 3
        · rw [if_pos (.inr (by omega))] at e4
          rw [if_pos h3]
          have := e4.1
          subst this
          exact H _ _ _ _ _ _ _ _ (by omega) e2
        · rw [if_neg (by omega)] at e4
          rw [if_neg h3]
          have := e4.1
          subst this
          exact H _ _ _ _ _ _ _ _ (by omega) e2
    simp only [gimballaw9_DrvFails.j5]
    rw [e3, bne_self_eq_false, if_neg (by decide)]
    by_cases h8 : s' = 8
    · rw [show (s' == 8) = true from beq_iff_eq.mpr h8, if_pos rfl, if_neg (by decide)]
      by_cases h7 : s = 7
      · rw [if_pos h7]; exact J
      · rw [if_neg h7]
        by_cases h3 : e = 2
        · rw [if_pos (.inr h3)] at e4
          rcases e4.2 h8 with h | h
          · exact absurd h h7
          · rw [if_neg (by omega), show (!t) = false by rw [h]; rfl]; exact J
        · rw [if_neg (by omega)] at e4
          exact absurd h8 e4.2
    · rw [show (s' == 8) = false from beq_eq_false_iff_ne.mpr h8, if_neg (by decide)]
      exact J
theorem behind (L : List (S29)) (i : Nat) (hi : i < 1000) (K : Nat) (hK : 40 < K)
    (H : ∀ (k : Nat) (w : Bool) (p s e : Int) (t : Bool) (l q : Int), K ≤ k → Dr.goodD 16 49 p s e l q = true → gimballaw9_DrvFails.l0 k e t ((i + 1 : Nat) : Int) L 16 49 w p s e t l q = some true)
    (k : Nat) (hk : K + 5 ≤ k) (w : Bool) (p s e : Int) (t : Bool) (l q : Int) (hg : Dr.goodD 16 49 p s e l q = true) (st : Int) (data : List Int) (hb : isBytes data)
    (x0 x1 : Int) (x2 : Bool) (x3 x4 x5 : Int) (x6 : Bool) (x7 x8 : Int) (x9 : Bool) (x10 : Int) :
    gimballaw9_DrvFails.j2 k e t (i : Int) L 16 49 w p s e t l q x0 x1 x2 x3 x4 x5 x6 x7 x8 x9 x10 st data = some true := by
  obtain ⟨k, rfl⟩ : ∃ m, k = m + 2 := ⟨k - 2, by omega⟩
  have hc := Dr.goodD_iff hg
  simp only [gimballaw9_DrvFails.j2]
  by_cases hs : s = 0 ∨ s = 8
  · rw [next_none w p s e t l q hg hs]
    simp only [Option.bind_some, gimballaw9_num.f, if_true]
    have J : gimballaw9_DrvFails.j3 (k + 1) e t (i : Int) false false L 16 49 w p s e t l q x0 x1 x2 x3 x4 x5 x6 x7 x8 x9 x10 st data 0 0 [] 0 = some true := by
      simp only [gimballaw9_DrvFails.j3]
      rw [if_neg (by decide), if_neg (by decide), w64 (by omega) (by omega), show (i : Int) + 1 = ((i + 1 : Nat) : Int) by omega]
      exact H _ _ _ _ _ _ _ _ (by omega) hg
    by_cases h0 : s = 0
    · rw [if_pos h0]; exact J
    · rw [if_neg h0, show (s == 8) = true from beq_iff_eq.mpr (by omega)]; exact J
  · have hs7 : 1 ≤ s ∧ s ≤ 7 := by omega
    obtain ⟨c, bs, hN⟩ := next_at w p s e t l q hg hs7
    rw [hN]
    simp only [Option.bind_some, gimballaw9_num.f, if_true]
    rw [if_neg (by omega), show (s == 8) = false from beq_eq_false_iff_ne.mpr (by omega), show (true == false) = false from rfl]
    simp only [gimballaw9_DrvFails.j3]
    rw [if_neg (by decide), if_pos trivial]
    have J : ∀ g : Bool, (g = true ↔ isGood s l st data) → gimballaw9_DrvFails.j4 k e t (i : Int) g L 16 49 w p s e t l q x0 x1 x2 x3 x4 x5 x6 x7 x8 x9 x10 st data = some true := fun g hgg =>
      behind4 L i hi K hK H k (by omega) w p s e t l q hg hs7 g st data hb hgg x0 x1 x2 x3 x4 x5 x6 x7 x8 x9 x10
    unfold isGood at J
    by_cases h1 : st = 1
    · rw [if_pos h1]
      by_cases h2 : (data.length : Int) = rdn s l
      · rw [if_pos h2]
        by_cases h3 : s = 1
        · have hr : rdn s l = 1 := by unfold rdn; rw [if_pos h3]
          rw [if_pos h3, if_pos (by omega)]
          by_cases h4 : rd data 0 = 49
          · rw [if_pos h4, if_neg (by omega)]
            exact J true ⟨fun _ => ⟨h1, h2, fun _ => h4, fun h => by omega⟩, fun _ => rfl⟩
          · rw [if_neg h4]
            exact J false ⟨fun h => (by cases h), fun h => absurd (h.2.2.1 h3) h4⟩
        · rw [if_neg h3]
          by_cases h4 : s = 4
          · have hr : rdn s l = 1 := by unfold rdn; rw [if_neg h3, if_pos h4]
            rw [if_pos h4, if_pos (by omega)]
            refine J _ ?_
            rw [decide_eq_true_iff]
            exact ⟨fun h => ⟨h1, h2, fun h => absurd h h3, fun _ => h⟩, fun h => h.2.2.2 h4⟩
          · rw [if_neg h4]
            exact J true ⟨fun _ => ⟨h1, h2, fun h => absurd h h3, fun h => absurd h h4⟩, fun _ => rfl⟩
      · rw [if_neg h2]
        exact J false ⟨fun h => (by cases h), fun h => absurd h.2.1 h2⟩
    · rw [if_neg h1]
      exact J false ⟨fun h => (by cases h), fun h => absurd h.1 h1⟩
theorem loop (L : List (S29)) (hb : ∀ x ∈ L, isBytes x.f3.f1) (d : Nat) : ∀ (i : Nat), 30 ≤ i + d → i ≤ 30 → ∀ (k : Nat) (w : Bool) (p s e : Int) (t : Bool) (l q : Int), 7 * d + 60 ≤ k → Dr.goodD 16 49 p s e l q = true → gimballaw9_DrvFails.l0 k e t (i : Int) L 16 49 w p s e t l q = some true := by
  induction d with
  | zero =>
    intro i hi hi2 k w p s e t l q hk hg
    obtain ⟨k, rfl⟩ : ∃ m, k = m + 2 := ⟨k - 2, by omega⟩
    simp only [gimballaw9_DrvFails.l0]
    have e0 : decide ((i : Int) < 30) = false := decide_eq_false (by omega)
    rw [e0]
    simp only [gimballaw9_DrvFails.j1, Bool.false_eq_true, if_false, gimballaw9_wakes.f, Option.bind_some, ite_self]
  | succ d ih =>
    intro i hi hi2 k w p s e t l q hk hg
    obtain ⟨k, rfl⟩ : ∃ m, k = m + 2 := ⟨k - 2, by omega⟩
    simp only [gimballaw9_DrvFails.l0]
    by_cases hl : (i : Int) < (L.length : Int)
    · rw [if_pos hl]
      by_cases h30 : (i : Int) < 30
      · rw [decide_eq_true h30]
        simp only [gimballaw9_DrvFails.j1, if_true]
        rw [if_pos (by omega), if_pos hl]
        have hx : rd_T29 L (i : Int) ∈ L := by
          unfold rd_T29
          rw [Int.toNat_natCast, List.getD_eq_getElem?_getD, List.getElem?_eq_getElem (by omega), Option.getD_some]
          exact List.getElem_mem _
        have hbx := hb _ hx
        generalize rd_T29 L (i : Int) = x at hbx
        clear hx
        by_cases h4 : ((x.f3.f1).length : Int) > 400
        · rw [if_pos h4]
        · rw [if_neg h4]
          obtain ⟨t1, e1, _, _⟩ := within_f x.f2 4 (by omega) (by omega)
          rw [e1]
          simp only [Option.bind_some]
          have H := ih (i + 1) (by omega) (by omega)
          by_cases ht : t1 = 0
          · rw [if_pos ht]
            obtain ⟨t2, e2, q0, q1⟩ := within_f x.f2 250 (by omega) (by omega)
            rw [e2]
            simp only [Option.bind_some]
            obtain ⟨k, rfl⟩ : ∃ m, k = m + 6 := ⟨k - 6, by omega⟩
            rw [w64 (by omega) (by omega), drvSet_at 16 49 w p s e t l q x.f1 (1 + t2) hg (by omega) (by omega) k]
            have hg2 := setS_good 16 49 p s e l q x.f1 (p != (1 + t2)) (1 + t2) hg (by omega) (by omega)
            simp only [Option.bind_some, gimballaw9_num.f, if_true]
            generalize Dr.setS s x.f1 (p != (1 + t2)) = s1 at hg2
            by_cases h1 : s1 = s
            · rw [if_pos h1, if_pos h1] at hg2
              rw [if_pos h1, if_pos h1, if_pos h1]
              exact behind L i (by omega) (7 * d + 60) (by omega) H _ (by omega) _ _ _ _ _ _ _ hg2 _ _ hbx _ _ _ _ _ _ _ _ _ _ _
            · rw [if_neg h1, if_neg h1] at hg2
              rw [if_neg h1, if_neg h1, if_neg h1]
              exact behind L i (by omega) (7 * d + 60) (by omega) H _ (by omega) _ _ _ _ _ _ _ hg2 _ _ hbx _ _ _ _ _ _ _ _ _ _ _
          · rw [if_neg ht]
            exact behind L i (by omega) (7 * d + 60) (by omega) H _ (by omega) _ _ _ _ _ _ _ hg _ _ hbx _ _ _ _ _ _ _ _ _ _ _
      · rw [decide_eq_false h30]
        simp only [gimballaw9_DrvFails.j1, Bool.false_eq_true, if_false, gimballaw9_wakes.f, Option.bind_some]
    · rw [if_neg hl]
      simp only [gimballaw9_DrvFails.j1, Bool.false_eq_true, if_false, gimballaw9_wakes.f, Option.bind_some]
theorem DrvFails : gimballaw9_DrvFails.Pure := by
  intro p hp
  refine ⟨400, ?_⟩
  unfold gimballaw9_DrvFails.f drv_New.f drv_Good.f
  have hg : Dr.goodD 16 49 1 0 0 0 0 = true := by decide
  simp only [Option.bind_some]
  rw [hg, if_pos rfl]
  simp only [Option.bind_some, gimballaw9_num.f, if_true]
  refine loop p.f0 (fun x hx y hy => ?_) 30 0 (by omega) (by omega) 400 false 1 0 0 false 0 0 (by omega) hg
  exact wf_u8 ((hp.2 x hx).2.2.2.2.2 y hy)
end Go.Proofs.Ytnlmbejkemkkoaa.Pure
