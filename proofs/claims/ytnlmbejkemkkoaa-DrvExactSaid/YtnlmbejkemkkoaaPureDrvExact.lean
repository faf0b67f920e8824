/-
  The pure law of DrvExact: any driver's next state, its transaction and the samples are what the page says, or refused.
  No conditions.
-/
import Derived.Test.YtnlmbejkemkkoaaSpecDrvExact
import Derived.Test.YtnlmbejkemkkoaaOpens
import Derived.Laws.BitsAllLaws
namespace Go.Proofs.Ytnlmbejkemkkoaa.Pure
open Go.RowKit Go.Proofs.Ytnlmbejkemkkoaa.Op Go.Proofs.Ytnlmbejkemkkoaa Go.Proofs.Ytnlmbejkemkkoaa.PDrvExact Go.Proofs.YtnlmbejkemkkoaaW.PrintWords Go.Proofs.YtnlmbejkemkkoaaW.PrintLast Go.Proofs.YtnlmbejkemkkoaaW.PrintMore
theorem w64 {x : Int} (h : -9223372036854775808 ≤ x) (h2 : x < 9223372036854775808) : wrap64 x = x := by
  unfold wrap64
  omega
theorem w64s (n : Nat) (h : n < 9223372036854775807) : wrap64 ((n : Int) + 1) = ((n + 1 : Nat) : Int) := by
  rw [w64 (by omega) (by omega)]
  omega
/-- The check of bytes: all of them, turned into 90. -/
def ck (l : List Int) : Nat := l.foldl (fun c y => c ^^^ y.toNat) 90
def isBytes (l : List Int) : Prop := ∀ y ∈ l, 0 ≤ y ∧ y < 256
theorem fold_lt (l : List Int) (h : isBytes l) (c : Nat) (hc : c < 256) : l.foldl (fun c y => c ^^^ y.toNat) c < 256 := by
  induction l generalizing c with
  | nil => exact hc
  | cons y l ih =>
    have hy := h y (by simp)
    exact ih (fun z hz => h z (by simp [hz])) _ (Nat.xor_lt_two_pow (n := 8) hc (by omega))
theorem ck_lt (l : List Int) (h : isBytes l) : ck l < 256 := fold_lt l h 90 (by decide)
theorem check_l0 (l : List Int) (h : isBytes l) (hn : l.length < 1000) (d : Nat) : ∀ (k i c : Nat), i + d = l.length → d < k → c < 256 → bus_Check.l0 k (c : Int) l (l.length : Int) (i : Int) = some (((l.drop i).foldl (fun c y => c ^^^ y.toNat) c : Nat) : Int) := by
  induction d with
  | zero =>
    intro k i c hi hk hc
    obtain ⟨k, rfl⟩ : ∃ m, k = m + 1 := ⟨k - 1, by omega⟩
    simp only [bus_Check.l0]
    rw [if_neg (by omega), List.drop_eq_nil_of_le (by omega)]
    rfl
  | succ d ih =>
    intro k i c hi hk hc
    obtain ⟨k, rfl⟩ : ∃ m, k = m + 1 := ⟨k - 1, by omega⟩
    have hlt : i < l.length := by omega
    have hy := h l[i] (List.getElem_mem hlt)
    have hr : rd l (i : Int) = l[i] := by unfold rd; simp [List.getD_eq_getElem?_getD, hlt]
    simp only [bus_Check.l0]
    rw [if_pos (by omega), if_pos (by omega), if_pos (by omega), hr, u8_xor _ _ (by omega) (by omega) hy.1 hy.2, w64 (by omega) (by omega), Int.toNat_natCast]
    rw [show ((i : Int) + 1) = ((i + 1 : Nat) : Int) by omega, ih k (i + 1) _ (by omega) (by omega) (Nat.xor_lt_two_pow (n := 8) hc (by omega))]
    rw [← List.getElem_cons_drop hlt]
    rfl
theorem check_f (l : List Int) (h : isBytes l) (hn : l.length < 1000) (k : Nat) (hk : l.length < k) : bus_Check.f k l = some ((ck l : Nat) : Int) := by
  have := check_l0 l h hn l.length k 0 90 (by omega) (by omega) (by decide)
  exact this
theorem number_f (l : List Int) (h : isBytes l) (hn : 2 ≤ l.length) : drv_number.f l = some (wrap64 (IntKind.i16.wrap (rd l 0 * 256 + rd l 1))) := by
  have g : ∀ i : Nat, i < l.length → 0 ≤ rd l (i : Int) ∧ rd l (i : Int) < 256 := fun i hi => by
    have : rd l (i : Int) = l[i] := by unfold rd; simp [List.getD_eq_getElem?_getD, hi]
    rw [this]
    exact h _ (List.getElem_mem hi)
  have h0 := g 0 (by omega)
  have h1 := g 1 (by omega)
  simp only [Int.ofNat_zero, Int.natCast_one] at h0 h1
  generalize hA : rd l 0 = A at h0
  generalize hB : rd l 1 = B at h1
  unfold drv_number.f
  rw [if_pos (by omega), if_pos (by omega), hA, hB]
  have e1 : IntKind.u16.wrap A = A := by rw [IntKind.wrap_u16]; omega
  have e2 : IntKind.u16.wrap B = B := by rw [IntKind.wrap_u16]; omega
  have e3 : IntKind.u16.wrap (A * 256) = A * 256 := by rw [IntKind.wrap_u16]; omega
  rw [e1, e2, e3, u16_or _ _ (by omega) (by omega) (by omega) (by omega)]
  have e4 : (A * 256).toNat ||| B.toNat = (A * 256).toNat + B.toNat := by
    obtain ⟨a, rfl⟩ := Int.eq_ofNat_of_zero_le h0.1
    obtain ⟨b, rfl⟩ := Int.eq_ofNat_of_zero_le h1.1
    rw [Int.toNat_natCast, show ((a : Int) * 256).toNat = 2 ^ 8 * a by omega]
    rw [Nat.two_pow_add_eq_or_of_lt (by omega)]
  rw [e4]
  congr 3
  omega
/-- A block of eight bytes, and what it tells. -/
def dec (b : List Int) : S55 := ⟨wrap64 (IntKind.i16.wrap (rd b 0 * 256 + rd b 1)), wrap64 (IntKind.i16.wrap (rd b 2 * 256 + rd b 3)), wrap64 (IntKind.i16.wrap (rd b 4 * 256 + rd b 5)), wrap64 (IntKind.i8.wrap (rd b 6))⟩
def tells (b : List Int) : Option (S55) := if ((ck (b.take 7) : Nat) : Int) = rd b 7 then some (dec b) else none
def badN (q : Int) (n : Nat) : Int := if q + n ≤ 1099511627776 then q + n else 1099511627776
theorem rd_drop (l : List Int) (m : Nat) (i : Nat) : rd (l.drop m) (i : Int) = rd l ((m + i : Nat) : Int) := by
  unfold rd
  rw [Int.toNat_natCast, Int.toNat_natCast, List.getD_eq_getElem?_getD, List.getD_eq_getElem?_getD, List.getElem?_drop]
theorem rd_left (a b : List Int) (i : Nat) (h : i < a.length) : rd (a ++ b) (i : Int) = rd a (i : Int) := by
  unfold rd
  rw [Int.toNat_natCast, List.getD_eq_getElem?_getD, List.getD_eq_getElem?_getD, List.getElem?_append_left h]
theorem bytes_app {a b : List Int} (ha : isBytes a) (hb : isBytes b) : isBytes (a ++ b) := fun y hy => by
  rcases List.mem_append.1 hy with h | h
  · exact ha y h
  · exact hb y h
theorem bytes_drop {a : List Int} (ha : isBytes a) (n : Nat) : isBytes (a.drop n) := fun y hy => ha y (List.mem_of_mem_drop hy)
theorem bytes_take {a : List Int} (ha : isBytes a) (n : Nat) : isBytes (a.take n) := fun y hy => ha y (List.mem_of_mem_take hy)
theorem bytes_flat {bs : List (List Int)} (h : ∀ b ∈ bs, b.length = 8 ∧ isBytes b) : isBytes bs.flatten := fun y hy => by
  obtain ⟨b, hb, hyb⟩ := List.mem_flatten.1 hy
  exact (h b hb).2 y hyb
theorem samples_l0 (d0 d1 : Int) (d2 : Bool) (d3 d4 d5 : Int) (d6 : Bool) (d7 : Int) (bs : List (List Int)) : ∀ (k : Nat) (acc : List (S55)) (q : Int), (∀ b ∈ bs, b.length = 8 ∧ isBytes b) → bs.length + 8 < k → acc.length + bs.length < 4398046511104 → 0 ≤ q → q ≤ 1099511627776 →
    drv_samples.l0 k bs.flatten acc d0 d1 d2 d3 d4 d5 d6 d7 q = some (d0, d1, d2, d3, 4, d5, d6, 0, badN q (bs.length - (bs.filterMap tells).length), acc ++ bs.filterMap tells) := by
  induction bs with
  | nil =>
    intro k acc q _ hk _ h0 h1
    obtain ⟨k, rfl⟩ : ∃ m, k = m + 1 := ⟨k - 1, by omega⟩
    simp only [drv_samples.l0, List.flatten_nil, List.length_nil]
    rw [if_neg (by simp)]
    simp only [List.filterMap_nil, List.length_nil, List.append_nil]
    unfold badN
    rw [if_pos (by omega)]
    simp
  | cons b bs ih =>
    intro k acc q hb hk ha h0 h1
    obtain ⟨k, rfl⟩ : ∃ m, k = m + 1 := ⟨k - 1, by omega⟩
    obtain ⟨hlen, hby⟩ := hb b (by simp)
    have hrest : ∀ c ∈ bs, c.length = 8 ∧ isBytes c := fun c hc => hb c (by simp [hc])
    have hfl : isBytes (b ++ bs.flatten) := bytes_app hby (bytes_flat hrest)
    have hll : (b ++ bs.flatten).length = 8 + bs.flatten.length := by rw [List.length_append, hlen]
    have htk : (b ++ bs.flatten).take 7 = b.take 7 := by rw [List.take_append_of_le_length (by omega)]
    have hdr : (b ++ bs.flatten).drop 8 = bs.flatten := by rw [← hlen, List.drop_left]
    have r : ∀ i : Nat, i < 8 → rd (b ++ bs.flatten) (i : Int) = rd b (i : Int) := fun i hi => rd_left _ _ i (by omega)
    have r7 := r 7 (by omega)
    have r6 := r 6 (by omega)
    have hfm : (b :: bs).filterMap tells = (tells b).toList ++ bs.filterMap tells := by
      rw [List.filterMap_cons]
      cases tells b <;> rfl
    have hle := List.length_filterMap_le tells bs
    simp only [drv_samples.l0, List.flatten_cons]
    rw [if_pos (by omega), if_pos (by omega), htk, check_f (b.take 7) (bytes_take hby 7) (by rw [List.length_take]; omega) k (by rw [List.length_take]; omega)]
    simp only [Option.bind_some]
    rw [if_pos (by omega), show rd (b ++ bs.flatten) 7 = rd b 7 from r7, hdr]
    have hck : (if (8 : Int) ≤ ((b ++ bs.flatten).length : Int) then drv_samples.l0 k bs.flatten acc d0 d1 d2 d3 d4 d5 d6 d7 (mn (wrap64 (q + 1)) 1099511627776) else none) = drv_samples.l0 k bs.flatten acc d0 d1 d2 d3 d4 d5 d6 d7 (mn (wrap64 (q + 1)) 1099511627776) := if_pos (by omega)
    by_cases hc : ((ck (b.take 7) : Nat) : Int) = rd b 7
    · have ht : tells b = some (dec b) := if_pos hc
      rw [if_pos hc, number_f _ hfl (by omega)]
      simp only [Option.bind_some]
      rw [if_pos (by omega), number_f _ (bytes_drop hfl 2) (by rw [List.length_drop]; omega)]
      simp only [Option.bind_some]
      rw [if_pos (by omega), number_f _ (bytes_drop hfl 4) (by rw [List.length_drop]; omega)]
      simp only [Option.bind_some]
      rw [if_pos (by omega), if_pos (by omega), if_pos (by omega)]
      have e0 := r 0 (by omega)
      have e1 := r 1 (by omega)
      have e2 := (rd_drop (b ++ bs.flatten) 2 0).trans (r 2 (by omega))
      have e3 := (rd_drop (b ++ bs.flatten) 2 1).trans (r 3 (by omega))
      have e4 := (rd_drop (b ++ bs.flatten) 4 0).trans (r 4 (by omega))
      have e5 := (rd_drop (b ++ bs.flatten) 4 1).trans (r 5 (by omega))
      rw [show rd (b ++ bs.flatten) 0 = rd b 0 from e0, show rd (b ++ bs.flatten) 1 = rd b 1 from e1, show rd ((b ++ bs.flatten).drop 2) 0 = rd b 2 from e2, show rd ((b ++ bs.flatten).drop 2) 1 = rd b 3 from e3, show rd ((b ++ bs.flatten).drop 4) 0 = rd b 4 from e4, show rd ((b ++ bs.flatten).drop 4) 1 = rd b 5 from e5, show rd (b ++ bs.flatten) 6 = rd b 6 from r6]
      rw [ih k _ q hrest (by simp only [List.length_cons] at hk; omega) (by simp only [List.length_append, List.length_cons, List.length_nil] at ha ⊢; omega) h0 h1]
      rw [hfm, ht]
      simp only [Option.toList_some, List.length_append, List.length_cons, List.length_nil, List.append_assoc]
      rw [show bs.length + 1 - (0 + 1 + (bs.filterMap tells).length) = bs.length - (bs.filterMap tells).length by omega]
      rfl
    · have ht : tells b = none := if_neg hc
      rw [if_neg hc, if_pos (by omega)]
      have hmn : mn (wrap64 (q + 1)) 1099511627776 = badN q 1 := by
        rw [w64 (by omega) (by omega)]
        unfold mn badN
        split <;> split <;> omega
      rw [hmn, ih k acc (badN q 1) hrest (by simp only [List.length_cons] at hk; omega) (by simp only [List.length_cons] at ha; omega) (by unfold badN; split <;> omega) (by unfold badN; split <;> omega)]
      rw [hfm, ht]
      simp only [Option.toList_none, List.nil_append, List.length_cons]
      have e : badN (badN q 1) (bs.length - (bs.filterMap tells).length) = badN q (bs.length + 1 - (bs.filterMap tells).length) := by
        unfold badN
        split <;> split <;> split <;> omega
      rw [e]
theorem cut_blocks (n : Nat) : ∀ (l : List Int), isBytes l → l.length = 8 * n → ∃ bs : List (List Int), bs.flatten = l ∧ bs.length = n ∧ ∀ b ∈ bs, b.length = 8 ∧ isBytes b := by
  induction n with
  | zero =>
    intro l _ hl
    exact ⟨[], by rw [List.flatten_nil, List.eq_nil_of_length_eq_zero (show l.length = 0 by omega)], rfl, fun b hb => by simp at hb⟩
  | succ n ih =>
    intro l hb hl
    obtain ⟨bs, h1, h2, h3⟩ := ih (l.drop 8) (bytes_drop hb 8) (by rw [List.length_drop]; omega)
    refine ⟨l.take 8 :: bs, by rw [List.flatten_cons, h1, List.take_append_drop], by rw [List.length_cons, h2], fun b hm => ?_⟩
    rcases List.mem_cons.1 hm with rfl | hm
    · exact ⟨by rw [List.length_take]; omega, bytes_take hb 8⟩
    · exact h3 b hm
theorem drvSet_at (a i : Int) (p : Bool) (b s e : Int) (t : Bool) (l q : Int) (w : Bool) (n : Int) (hg : Dr.goodD a i b s e l q = true) (h1 : 1 ≤ n) (h2 : n ≤ 250) (k : Nat) :
    drv_Set.f (k + 6) a i p b s e t l q w n = some (a, i, w, n, Dr.setS s w (b != n), (if Dr.setS s w (b != n) = s then e else 0), t, (if Dr.setS s w (b != n) = s then l else 0), q, 0) := by
  have hc := Dr.goodD_iff hg
  have hs : s = 0 ∨ s = 1 ∨ s = 2 ∨ s = 3 ∨ s = 4 ∨ s = 5 ∨ s = 6 ∨ s = 7 ∨ s = 8 := by omega
  unfold drv_Set.f drv_Good.f
  rw [Option.bind_some, hg, if_pos rfl, if_neg (by omega), decide_eq_false (by omega)]
  clear hc hg
  have hb : (n != b) = (b != n) := by rw [bne_comm]
  by_cases hn : b = n
  · have hb1 : (b != n) = false := by rw [hn]; exact bne_self_eq_false _
    rw [hb1]
    rw [hb1] at hb
    rcases hs with rfl | rfl | rfl | rfl | rfl | rfl | rfl | rfl | rfl <;> cases w <;> simp [drv_Set.j0, drv_Set.j1, drv_Set.j2, drv_Set.j3, drv_Set.j4, Dr.setS, hb]
  · have hb1 : (b != n) = true := by simpa using hn
    rw [hb1]
    rw [hb1] at hb
    rcases hs with rfl | rfl | rfl | rfl | rfl | rfl | rfl | rfl | rfl <;> cases w <;> simp [drv_Set.j0, drv_Set.j1, drv_Set.j2, drv_Set.j3, drv_Set.j4, Dr.setS, hb]
theorem setS_good (a i : Int) (b s e l q : Int) (w o : Bool) (n : Int) (hg : Dr.goodD a i b s e l q = true) (h1 : 1 ≤ n) (h2 : n ≤ 250) :
    Dr.goodD a i n (Dr.setS s w o) (if Dr.setS s w o = s then e else 0) (if Dr.setS s w o = s then l else 0) q = true := by
  have hc := Dr.goodD_iff hg
  have hs : Dr.setS s w o = s ∨ (0 ≤ Dr.setS s w o ∧ Dr.setS s w o ≤ 8 ∧ Dr.setS s w o ≠ 5) := by
    unfold Dr.setS
    cases w <;> simp only [Bool.false_eq_true, if_true, if_false] <;> (repeat' split) <;> omega
  unfold Dr.goodD
  rw [decide_eq_true_iff]
  by_cases h : Dr.setS s w o = s
  · rw [if_pos h, if_pos h, h]
    omega
  · rw [if_neg h, if_neg h]
    omega
theorem good_no {a i b c e l q : Int} (h : ¬ (0 ≤ a ∧ a ≤ 127 ∧ 0 ≤ i ∧ i ≤ 255 ∧ 1 ≤ b ∧ b ≤ 250 ∧ 0 ≤ c ∧ c ≤ 8 ∧ 0 ≤ e ∧ e < 3 ∧ 0 ≤ q ∧ q ≤ 1099511627776 ∧ (c = 5 → 1 ≤ l ∧ l ≤ 16) ∧ (c ≠ 5 → l = 0))) : some false = some (Dr.goodD a i b c e l q) := by
  unfold Dr.goodD
  rw [decide_eq_false h]
theorem may_good (a i : Int) (p : Bool) (b c e : Int) (t : Bool) (l q : Int) (k : Nat) : gimbalref9_May.f (k + 2) a i p b c e t l q = some (Dr.goodD a i b c e l q) := by
  unfold gimbalref9_May.f
  simp only [gimbalref9_May.j0, gimbalref9_May.j1, if_true, decide_eq_true_eq]
  by_cases h0 : a < 0
  · rw [if_pos h0]; exact good_no (by omega)
  rw [if_neg h0]
  by_cases h1 : a > 127
  · rw [if_pos h1]; exact good_no (by omega)
  rw [if_neg h1]
  by_cases h2 : i < 0
  · rw [if_pos h2]; exact good_no (by omega)
  rw [if_neg h2]
  by_cases h3 : i > 255
  · rw [if_pos h3]; exact good_no (by omega)
  rw [if_neg h3]
  by_cases h4 : b < 1
  · rw [if_pos h4]; exact good_no (by omega)
  rw [if_neg h4]
  by_cases h5 : b > 250
  · rw [if_pos h5]; exact good_no (by omega)
  rw [if_neg h5]
  by_cases h6 : c < 0
  · rw [if_pos h6]; exact good_no (by omega)
  rw [if_neg h6]
  by_cases h7 : c > 8
  · rw [if_pos h7]; exact good_no (by omega)
  rw [if_neg h7]
  by_cases h8 : e < 0
  · rw [if_pos h8]; exact good_no (by omega)
  rw [if_neg h8]
  by_cases h9 : e ≥ 3
  · rw [if_pos h9]; exact good_no (by omega)
  rw [if_neg h9]
  by_cases h10 : q < 0
  · rw [if_pos h10]; exact good_no (by omega)
  rw [if_neg h10]
  by_cases h11 : q > 1099511627776
  · rw [if_pos h11]; exact good_no (by omega)
  rw [if_neg h11]
  by_cases hc : c = 5
  · rw [if_pos hc]
    by_cases h1 : l ≥ 1
    · rw [if_pos h1]
      unfold Dr.goodD
      congr 1
      rw [decide_eq_decide]
      omega
    · rw [if_neg h1]; exact good_no (by omega)
  · rw [if_neg hc]
    unfold Dr.goodD
    congr 1
    rw [Bool.eq_iff_iff, beq_iff_eq, decide_eq_true_iff]
    omega
set_option linter.unusedSimpArgs false
/-! ### What is alike is told to be alike. -/
theorem eqb_l0 (l : List Int) (hl : l.length < 4611686018427387904) (d : Nat) : ∀ (k i : Nat), i + d = l.length → d < k → gimbalref0_EqBytes.l0 k l l (i : Int) = some true := by
  induction d with
  | zero =>
    intro k i hi hk
    obtain ⟨k, rfl⟩ : ∃ m, k = m + 1 := ⟨k - 1, by omega⟩
    simp only [gimbalref0_EqBytes.l0]
    rw [if_neg (by omega)]
  | succ d ih =>
    intro k i hi hk
    obtain ⟨k, rfl⟩ : ∃ m, k = m + 1 := ⟨k - 1, by omega⟩
    simp only [gimbalref0_EqBytes.l0]
    rw [if_pos (by omega), if_pos (by omega), if_pos (by omega), if_pos trivial, w64 (by omega) (by omega), show ((i : Int) + 1) = ((i + 1 : Nat) : Int) by omega]
    exact ih k (i + 1) (by omega) (by omega)
theorem eqb_f (l : List Int) (hl : l.length < 4611686018427387904) (k : Nat) (hk : l.length < k) : gimbalref0_EqBytes.f k l l = some true := by
  unfold gimbalref0_EqBytes.f
  rw [if_pos rfl]
  exact eqb_l0 l hl l.length k 0 (by omega) (by omega)
theorem eq_l0 (l : List (S55)) (hl : l.length < 4611686018427387904) (d : Nat) : ∀ (k i : Nat), i + d = l.length → d < k → gimbalref0_EqRaws.l0 k l l (i : Int) = some true := by
  induction d with
  | zero =>
    intro k i hi hk
    obtain ⟨k, rfl⟩ : ∃ m, k = m + 1 := ⟨k - 1, by omega⟩
    simp only [gimbalref0_EqRaws.l0]
    rw [if_neg (by omega)]
  | succ d ih =>
    intro k i hi hk
    obtain ⟨k, rfl⟩ : ∃ m, k = m + 1 := ⟨k - 1, by omega⟩
    simp only [gimbalref0_EqRaws.l0]
    rw [if_pos (by omega), if_pos (by omega), if_pos (by omega), if_neg (by simp), w64 (by omega) (by omega), show ((i : Int) + 1) = ((i + 1 : Nat) : Int) by omega]
    exact ih k (i + 1) (by omega) (by omega)
theorem eq_f (l : List (S55)) (hl : l.length < 4611686018427387904) (k : Nat) (hk : l.length < k) : gimbalref0_EqRaws.f k l l = some true := by
  unfold gimbalref0_EqRaws.f
  rw [if_pos rfl]
  exact eq_l0 l hl l.length k 0 (by omega) (by omega)
theorem copy_l0 (l : List Int) (hl : l.length < 1000) (d : Nat) : ∀ (k i : Nat), i + d = l.length → d < k → gimbalref0_CopyBytes.l0 k l (l.take i) (i : Int) = some l := by
  induction d with
  | zero =>
    intro k i hi hk
    obtain ⟨k, rfl⟩ : ∃ m, k = m + 1 := ⟨k - 1, by omega⟩
    simp only [gimbalref0_CopyBytes.l0]
    rw [if_neg (by omega), List.take_of_length_le (by omega)]
  | succ d ih =>
    intro k i hi hk
    obtain ⟨k, rfl⟩ : ∃ m, k = m + 1 := ⟨k - 1, by omega⟩
    have hlt : i < l.length := by omega
    have hr : rd l (i : Int) = l[i] := by unfold rd; simp [List.getD_eq_getElem?_getD, hlt]
    simp only [gimbalref0_CopyBytes.l0]
    rw [if_pos (by omega), if_pos (by omega), if_pos (by rw [List.length_take]; omega), hr, w64 (by omega) (by omega), show ((i : Int) + 1) = ((i + 1 : Nat) : Int) by omega, ← List.take_succ_eq_append_getElem hlt]
    exact ih k (i + 1) (by omega) (by omega)
theorem copy_f (st : Int) (l : List Int) (hl : l.length < 1000) (k : Nat) (hk : l.length < k) : gimbalref0_CopyAnswer.f k st l = some (st, l) := by
  unfold gimbalref0_CopyAnswer.f gimbalref0_CopyBytes.f
  have := copy_l0 l hl l.length k 0 (by omega) hk
  rw [List.take_zero] at this
  rw [show (0 : Int) = ((0 : Nat) : Int) from rfl, this]
  rfl
/-! ### The page's own samples -/
theorem ref_l0 (l : List Int) (h : isBytes l) (hn : 7 ≤ l.length) (d : Nat) : ∀ (k i c : Nat), i + d = 7 → d < k → c < 256 → gimbalref8_Check.l0 k l (c : Int) (i : Int) = some ((((l.take 7).drop i).foldl (fun c y => c ^^^ y.toNat) c : Nat) : Int) := by
  induction d with
  | zero =>
    intro k i c hi hk hc
    obtain ⟨k, rfl⟩ : ∃ m, k = m + 1 := ⟨k - 1, by omega⟩
    simp only [gimbalref8_Check.l0]
    rw [if_neg (by omega), List.drop_eq_nil_of_le (by rw [List.length_take]; omega)]
    rfl
  | succ d ih =>
    intro k i c hi hk hc
    obtain ⟨k, rfl⟩ : ∃ m, k = m + 1 := ⟨k - 1, by omega⟩
    have hlt : i < l.length := by omega
    have hlt7 : i < (l.take 7).length := by rw [List.length_take]; omega
    have hy := h l[i] (List.getElem_mem hlt)
    have hr : rd l (i : Int) = l[i] := by unfold rd; simp [List.getD_eq_getElem?_getD, hlt]
    have h7 : (l.take 7)[i] = l[i] := by rw [List.getElem_take]
    simp only [gimbalref8_Check.l0]
    rw [if_pos (by omega), if_pos (by omega), if_pos (by omega), hr, u8_xor _ _ (by omega) (by omega) hy.1 hy.2, w64 (by omega) (by omega), Int.toNat_natCast]
    rw [show ((i : Int) + 1) = ((i + 1 : Nat) : Int) by omega, ih k (i + 1) _ (by omega) (by omega) (Nat.xor_lt_two_pow (n := 8) hc (by omega))]
    rw [← List.getElem_cons_drop hlt7, h7]
    rfl
theorem ofInt_i64 (a : Nat) (ha : a < 65536) : (BitVec.ofInt 64 (a : Int)).toNat = a := by
  rw [BitVec.ofInt_natCast, BitVec.toNat_ofNat]; exact Nat.mod_eq_of_lt (by omega)
theorem i64_or (a b : Int) (h1 : 0 ≤ a) (h2 : a < 65536) (h3 : 0 ≤ b) (h4 : b < 65536) : bits .or .i64 a b = ((a.toNat ||| b.toNat : Nat) : Int) := by
  obtain ⟨A, rfl⟩ := Int.eq_ofNat_of_zero_le h1
  obtain ⟨B, rfl⟩ := Int.eq_ofNat_of_zero_le h3
  have hx : A ||| B < 2 ^ 16 := Nat.or_lt_two_pow (by omega) (by omega)
  show IntKind.i64.wrap ((BitVec.ofInt 64 (A : Int) ||| BitVec.ofInt 64 (B : Int)).toNat : Int) = _
  rw [BitVec.toNat_or, ofInt_i64 A (by omega), ofInt_i64 B (by omega), IntKind.wrap_i64, Int.toNat_natCast, Int.toNat_natCast]
  generalize A ||| B = c at hx ⊢
  first | omega | (unfold wrap64; omega)
theorem i16_wrap (n : Int) : IntKind.i16.wrap n = if n % 65536 ≥ 32768 then n % 65536 - 65536 else n % 65536 := by simp [IntKind.wrap, IntKind.bits, IntKind.signed]
theorem signed_f (x y : Int) (hx : 0 ≤ x ∧ x < 256) (hy : 0 ≤ y ∧ y < 256) : gimbalref9_signed.f x y = some (wrap64 (IntKind.i16.wrap (x * 256 + y))) := by
  have e : bits .or .i64 (wrap64 ((wrap64 x) * 256)) (wrap64 y) = x * 256 + y := by
    rw [w64 (x := x) (by omega) (by omega), w64 (by omega) (by omega), w64 (by omega) (by omega), i64_or _ _ (by omega) (by omega) (by omega) (by omega)]
    obtain ⟨a, rfl⟩ := Int.eq_ofNat_of_zero_le hx.1
    obtain ⟨b, rfl⟩ := Int.eq_ofNat_of_zero_le hy.1
    rw [show ((a : Int) * 256).toNat = 2 ^ 8 * a by omega, Int.toNat_natCast, ← Nat.two_pow_add_eq_or_of_lt (by omega)]
    omega
  unfold gimbalref9_signed.f
  rw [e, i16_wrap]
  by_cases h : x * 256 + y ≥ 32768
  · rw [if_pos h, if_pos (by omega), show (x * 256 + y) % 65536 = x * 256 + y by omega]
  · rw [if_neg h, if_neg (by omega), w64 (by omega) (by omega), show (x * 256 + y) % 65536 = x * 256 + y by omega]
theorem flat_len (bs : List (List Int)) (h : ∀ b ∈ bs, b.length = 8 ∧ isBytes b) : bs.flatten.length = 8 * bs.length := by
  induction bs with
  | nil => rfl
  | cons b bs ih => rw [List.flatten_cons, List.length_append, (h b (by simp)).1, ih (fun c hc => h c (by simp [hc])), List.length_cons]; omega
theorem rd_at (l : List Int) (h : isBytes l) (i : Nat) (hi : i < l.length) : 0 ≤ rd l (i : Int) ∧ rd l (i : Int) < 256 := by
  have : rd l (i : Int) = l[i] := by unfold rd; simp [List.getD_eq_getElem?_getD, hi]
  rw [this]
  exact h _ (List.getElem_mem hi)
theorem ref_samples (d0 d1 : Int) (d2 : Bool) (d3 d4 d5 : Int) (d6 : Bool) (d7 st : Int) (bs : List (List Int)) : ∀ (k : Nat) (pre : List (List Int)) (acc : List (S55)) (q : Int), (∀ b ∈ pre ++ bs, b.length = 8 ∧ isBytes b) → bs.length + 9 < k → acc.length + bs.length < 1000 → pre.length + bs.length < 1000 → 0 ≤ q → q ≤ 1099511627776 →
    gimbalref9_Take.l0 k acc ((8 * pre.length : Nat) : Int) d0 d1 d2 d3 d4 d5 d6 d7 q st (pre ++ bs).flatten = some (d0, d1, d2, d3, 4, d5, d6, 0, badN q (bs.length - (bs.filterMap tells).length), acc ++ bs.filterMap tells, false) := by
  induction bs with
  | nil =>
    intro k pre acc q hb hk ha hp h0 h1
    obtain ⟨k, rfl⟩ : ∃ m, k = m + 1 := ⟨k - 1, by omega⟩
    have hl := flat_len _ hb
    rw [List.append_nil] at hl ⊢
    simp only [gimbalref9_Take.l0]
    rw [if_neg (by omega)]
    simp only [List.filterMap_nil, List.length_nil, List.append_nil]
    unfold badN
    rw [if_pos (by omega)]
    simp
  | cons b bs ih =>
    intro k pre acc q hb hk ha hp h0 h1
    obtain ⟨k, rfl⟩ : ∃ m, k = m + 1 := ⟨k - 1, by omega⟩
    have hl := flat_len _ hb
    obtain ⟨hlen, hby⟩ := hb b (by simp)
    have hpre : pre.flatten.length = 8 * pre.length := flat_len _ (fun c hc => hb c (by simp [hc]))
    rw [List.length_append, List.length_cons] at hl
    simp only [List.length_cons] at hk ha hp
    have hrec := fun acc q => ih k (pre ++ [b]) acc q (by simpa using hb) (by omega)
    have hfl : (pre ++ b :: bs).flatten = (pre.flatten ++ b) ++ bs.flatten := by simp
    have hcut : ((pre ++ b :: bs).flatten.take (((8 * pre.length : Nat) : Int) + 8).toNat).drop (((8 * pre.length : Nat) : Int)).toNat = b := by
      rw [hfl, List.take_left' (by rw [List.length_append, hpre, hlen]; omega), List.drop_left' (by rw [hpre]; omega)]
    have hck : gimbalref8_Check.f k b = some ((ck (b.take 7) : Nat) : Int) := ref_l0 b hby (by omega) 7 k 0 90 (by omega) (by omega) (by decide)
    have hfm : (b :: bs).filterMap tells = (tells b).toList ++ bs.filterMap tells := by
      rw [List.filterMap_cons]
      cases tells b <;> rfl
    have hle := List.length_filterMap_le tells bs
    simp only [gimbalref9_Take.l0]
    rw [w64 (by omega) (by omega), hcut]
    rw [if_pos (by omega), if_pos (by omega), if_pos (by omega), if_pos (by omega), hck]
    simp only [Option.bind_some]
    rw [if_pos (by omega)]
    have e8 : ((8 * pre.length : Nat) : Int) + 8 = ((8 * (pre ++ [b]).length : Nat) : Int) := by rw [List.length_append, List.length_cons, List.length_nil]; omega
    have eb : (pre ++ b :: bs) = (pre ++ [b]) ++ bs := by simp
    have r0 : 0 ≤ rd b 0 ∧ rd b 0 < 256 := rd_at b hby 0 (by omega)
    have r1 : 0 ≤ rd b 1 ∧ rd b 1 < 256 := rd_at b hby 1 (by omega)
    have r2 : 0 ≤ rd b 2 ∧ rd b 2 < 256 := rd_at b hby 2 (by omega)
    have r3 : 0 ≤ rd b 3 ∧ rd b 3 < 256 := rd_at b hby 3 (by omega)
    have r4 : 0 ≤ rd b 4 ∧ rd b 4 < 256 := rd_at b hby 4 (by omega)
    have r5 : 0 ≤ rd b 5 ∧ rd b 5 < 256 := rd_at b hby 5 (by omega)
    by_cases hc : ((ck (b.take 7) : Nat) : Int) = rd b 7
    · have ht : tells b = some (dec b) := if_pos hc
      rw [if_pos hc, if_pos (by omega), if_pos (by omega), signed_f _ _ r0 r1]
      simp only [Option.bind_some]
      rw [if_pos (by omega), if_pos (by omega), signed_f _ _ r2 r3]
      simp only [Option.bind_some]
      rw [if_pos (by omega), if_pos (by omega), signed_f _ _ r4 r5]
      simp only [Option.bind_some]
      rw [if_pos (by omega), if_pos (by omega), e8, eb]
      refine (hrec _ q (by rw [List.length_append, List.length_cons, List.length_nil]; omega) (by rw [List.length_append, List.length_cons, List.length_nil]; omega) h0 h1).trans ?_
      rw [hfm, ht]
      simp only [Option.toList_some, List.length_append, List.length_cons, List.length_nil, List.append_assoc]
      rw [show bs.length + 1 - (0 + 1 + (bs.filterMap tells).length) = bs.length - (bs.filterMap tells).length by omega]
      rfl
    · have ht : tells b = none := if_neg hc
      have hbad : (if q < 1099511627776 then gimbalref9_Take.l0 k acc (((8 * pre.length : Nat) : Int) + 8) d0 d1 d2 d3 d4 d5 d6 d7 (wrap64 (q + 1)) st (pre ++ b :: bs).flatten else gimbalref9_Take.l0 k acc (((8 * pre.length : Nat) : Int) + 8) d0 d1 d2 d3 d4 d5 d6 d7 q st (pre ++ b :: bs).flatten) = gimbalref9_Take.l0 k acc (((8 * pre.length : Nat) : Int) + 8) d0 d1 d2 d3 d4 d5 d6 d7 (badN q 1) st (pre ++ b :: bs).flatten := by
        unfold badN
        by_cases h : q < 1099511627776
        · rw [if_pos h, if_pos (by omega), w64 (by omega) (by omega)]; rfl
        · rw [if_neg h, if_neg (by omega), show q = 1099511627776 by omega]
      rw [if_neg hc, hbad, e8, eb]
      refine (hrec _ (badN q 1) (by omega) (by rw [List.length_append, List.length_cons, List.length_nil]; omega) (by unfold badN; split <;> omega) (by unfold badN; split <;> omega)).trans ?_
      rw [hfm, ht]
      simp only [Option.toList_none, List.nil_append, List.length_cons]
      have e : badN (badN q 1) (bs.length - (bs.filterMap tells).length) = badN q (bs.length + 1 - (bs.filterMap tells).length) := by
        unfold badN
        split <;> split <;> split <;> omega
      rw [e]
/-! ### A transaction, and what an answer leads to -/
theorem next_both (a i : Int) (w : Bool) (p s e : Int) (t : Bool) (l q : Int) (hg : Dr.goodD a i p s e l q = true) :
    (∃ t1 t2 t3 t4, drv_Next.f a i w p s e t l q = some (t1, t2, t3, t4, true, 0) ∧ gimbalref9_Next.f a i w p s e t l q = some (t1, t2, t3, t4, true) ∧ t3.length ≤ 1 ∧ 1 ≤ s ∧ s ≤ 7 ∧ (s = 1 ∨ s = 4 → t4 = 1) ∧ (s = 5 → t4 = 8 * l)) ∨
    (drv_Next.f a i w p s e t l q = some (0, 0, [], 0, false, 0) ∧ gimbalref9_Next.f a i w p s e t l q = some (0, 0, [], 0, false)) := by
  have hc := Dr.goodD_iff hg
  have hcase : s = 0 ∨ s = 1 ∨ s = 2 ∨ s = 3 ∨ s = 4 ∨ s = 5 ∨ s = 6 ∨ s = 7 ∨ s = 8 := by omega
  unfold drv_Next.f gimbalref9_Next.f
  rw [if_pos hg]
  have h8 : s = 5 → wrap64 (8 * l) = 8 * l := fun h => w64 (by omega) (by omega)
  clear hg
  rcases hcase with rfl | rfl | rfl | rfl | rfl | rfl | rfl | rfl | rfl
  · exact .inr ⟨rfl, rfl⟩
  · exact .inl ⟨_, _, _, _, rfl, rfl, by simp, by omega, by omega, by simp, by simp⟩
  · exact .inl ⟨_, _, _, _, rfl, rfl, by simp, by omega, by omega, by simp, by simp⟩
  · exact .inl ⟨_, _, _, _, rfl, rfl, by simp, by omega, by omega, by simp, by simp⟩
  · exact .inl ⟨_, _, _, _, rfl, rfl, by simp, by omega, by omega, by simp, by simp⟩
  · rw [h8 rfl]
    exact .inl ⟨_, _, _, _, rfl, rfl, by simp, by omega, by omega, by simp, by simp⟩
  · exact .inl ⟨_, _, _, _, rfl, rfl, by simp, by omega, by omega, by simp, by simp⟩
  · exact .inl ⟨_, _, _, _, rfl, rfl, by simp, by omega, by omega, by simp, by simp⟩
  · exact .inr ⟨rfl, rfl⟩
theorem good_same (k : Nat) (a i : Int) (w : Bool) (p s e : Int) (t : Bool) (l q t1 t2 : Int) (t3 : List Int) (t4 st : Int) (data : List Int) :
    gimbalref9_good.f k a i w p s e t l q t1 t2 t3 t4 st data = drv_good.f k a i w p s e t l q t1 t2 t3 t4 st data := by
  unfold gimbalref9_good.f drv_good.f
  cases k <;> simp only [gimbalref9_good.j0, drv_good.j0]
theorem good_some (k : Nat) (a i : Int) (w : Bool) (p s e : Int) (t : Bool) (l q t1 t2 : Int) (t3 : List Int) (t4 st : Int) (data : List Int) (h4 : s = 1 ∨ s = 4 → t4 = 1) :
    ∃ g, drv_good.f (k + 1) a i w p s e t l q t1 t2 t3 t4 st data = some g ∧ (g = true → (data.length : Int) = t4 ∧ (s = 4 → wrap64 (rd data 0) ≤ 16)) := by
  unfold drv_good.f
  by_cases h1 : st = 1
  · rw [if_pos h1]
    simp only [drv_good.j0]
    by_cases h2 : (data.length : Int) = t4
    · rw [show ((data.length : Int) != t4) = false from bne_eq_false_iff_eq.mpr h2, if_neg (by decide)]
      by_cases h3 : s = 1
      · rw [if_pos h3, if_pos (by have := h4 (.inl h3); omega)]
        exact ⟨_, rfl, fun _ => ⟨h2, fun h => by omega⟩⟩
      · rw [if_neg h3]
        by_cases h5 : s = 4
        · rw [if_pos h5, if_pos (by have := h4 (.inr h5); omega)]
          exact ⟨_, rfl, fun h => ⟨h2, fun _ => of_decide_eq_true h⟩⟩
        · rw [if_neg h5]
          exact ⟨_, rfl, fun _ => ⟨h2, fun h => absurd h h5⟩⟩
    · rw [show ((data.length : Int) != t4) = true from bne_iff_ne.mpr h2, if_pos rfl]
      exact ⟨_, rfl, fun h => by cases h⟩
  · rw [if_neg h1]
    simp only [drv_good.j0, if_true]
    exact ⟨_, rfl, fun h => by cases h⟩
theorem take_both (a i : Int) (w : Bool) (p s e : Int) (t : Bool) (l q st : Int) (data : List Int) (hb : isBytes data) (hg : Dr.goodD a i p s e l q = true)
    (t1 t2 : Int) (t3 : List Int) (t4 : Int) (hN : drv_Next.f a i w p s e t l q = some (t1, t2, t3, t4, true, 0)) (hR : gimbalref9_Next.f a i w p s e t l q = some (t1, t2, t3, t4, true)) (hs : 1 ≤ s ∧ s ≤ 7) (h14 : s = 1 ∨ s = 4 → t4 = 1) (h5 : s = 5 → t4 = 8 * l) (k : Nat) (hk : 40 < k) :
    ∃ c1 c2 c3 c4 c5 c6 c7 c8 c9 raws fl, drv_Take.f (k + 1) a i w p s e t l q st data = some (c1, c2, c3, c4, c5, c6, c7, c8, c9, raws, fl, 0) ∧ gimbalref9_Take.f (k + 1) a i w p s e t l q st data = some (c1, c2, c3, c4, c5, c6, c7, c8, c9, raws, fl) ∧ raws.length ≤ 16 := by
  obtain ⟨g, hG, hgt⟩ := good_some k a i w p s e t l q t1 t2 t3 t4 st data h14
  have hc := Dr.goodD_iff hg
  have h0 : 0 ≤ rd data 0 ∧ rd data 0 < 256 := by
    unfold rd
    cases data with
    | nil => exact ⟨Int.le_refl 0, by decide⟩
    | cons y l => exact hb y (by simp)
  unfold drv_Take.f gimbalref9_Take.f
  rw [hN, hR]
  simp only [Option.bind_some, if_true, good_same]
  rw [hG]
  simp only [Option.bind_some]
  clear hN hR hG
  cases g with
  | false =>
    simp only [Bool.false_eq_true, if_false]
    unfold drv_bad.f gimbalref9_bad.f
    rw [w64 (by omega) (by omega)]
    by_cases h7 : s = 7
    · rw [if_pos h7, if_pos h7]
      simp only [gimbalref9_bad.j0, Bool.false_eq_true, if_false]
      rw [if_pos h7]
      exact ⟨_, _, _, _, _, _, _, _, _, _, _, rfl, rfl, by simp⟩
    · rw [if_neg h7, if_neg h7]
      by_cases h3 : e + 1 = 3
      · rw [if_pos h3, decide_eq_false (by omega)]
        simp only [gimbalref9_bad.j0, Bool.false_eq_true, if_false]
        rw [if_neg h7]
        cases t
        · exact ⟨_, _, _, _, _, _, _, _, _, _, _, rfl, rfl, by simp⟩
        · exact ⟨_, _, _, _, _, _, _, _, _, _, _, rfl, rfl, by simp⟩
      · rw [if_neg h3, decide_eq_true (by omega)]
        simp only [gimbalref9_bad.j0, if_true]
        exact ⟨_, _, _, _, _, _, _, _, _, _, _, rfl, rfl, by simp⟩
  | true =>
    obtain ⟨g1, g2⟩ := hgt rfl
    simp only [if_true]
    have hcase : s = 1 ∨ s = 2 ∨ s = 3 ∨ s = 4 ∨ s = 5 ∨ s = 6 ∨ s = 7 := by omega
    rcases hcase with rfl | rfl | rfl | rfl | rfl | rfl | rfl
    · unfold drv_row.f drv_next.f
      rw [if_neg (by decide), if_neg (by decide), if_neg (by decide), if_neg (by decide), w64 (by omega) (by omega)]
      exact ⟨_, _, _, _, _, _, _, _, _, _, _, rfl, rfl, by simp⟩
    · unfold drv_row.f drv_next.f
      rw [if_neg (by decide), if_neg (by decide), if_neg (by decide), if_neg (by decide), w64 (by omega) (by omega)]
      exact ⟨_, _, _, _, _, _, _, _, _, _, _, rfl, rfl, by simp⟩
    · unfold drv_row.f drv_next.f
      rw [if_neg (by decide), if_neg (by decide), if_neg (by decide), if_neg (by decide), w64 (by omega) (by omega)]
      exact ⟨_, _, _, _, _, _, _, _, _, _, _, rfl, rfl, by simp⟩
    · have hl := h14 (.inr rfl)
      unfold drv_row.f drv_counted.f
      have hl0 : 0 < (data.length : Int) := by omega
      rw [w64 (x := rd data 0) (by omega) (by omega), if_neg (show ¬ (4 : Int) = 1 by decide), if_neg (show ¬ (4 : Int) = 2 by decide), if_neg (show ¬ (4 : Int) = 3 by decide), if_pos (show (4 : Int) = 4 from rfl), if_pos (show (4 : Int) = 4 from rfl), if_pos hl0, if_pos hl0]
      by_cases hz : rd data 0 > 0
      · rw [if_pos hz, if_pos hz]
        exact ⟨_, _, _, _, _, _, _, _, _, _, _, rfl, rfl, by simp⟩
      · rw [if_neg hz, if_neg hz]
        exact ⟨_, _, _, _, _, _, _, _, _, _, _, rfl, rfl, by simp⟩
    · have hl := h5 rfl
      obtain ⟨n, rfl⟩ : ∃ n : Nat, l = n := ⟨l.toNat, by omega⟩
      obtain ⟨bs, rfl, hbl, hbb⟩ := cut_blocks n data hb (by omega)
      unfold drv_row.f drv_samples.f
      rw [if_neg (by decide), if_pos rfl, samples_l0 a i w p 5 0 t (n : Int) bs (k + 1) [] q hbb (by omega) (by simp; omega) (by omega) (by omega)]
      rw [if_neg (by decide), if_neg (by decide), if_neg (by decide), if_neg (by decide), if_pos rfl]
      have hr := ref_samples a i w p 5 0 t (n : Int) st bs (k + 1) [] [] q (by simpa using hbb) (by omega) (by simp; omega) (by simp; omega) (by omega) (by omega)
      rw [List.nil_append] at hr
      rw [show (0 : Int) = ((8 * ([] : List (List Int)).length : Nat) : Int) from rfl] at *
      refine ⟨_, _, _, _, _, _, _, _, _, _, _, rfl, hr, ?_⟩
      have := List.length_filterMap_le tells bs
      simp only [List.nil_append]
      omega
    · exact ⟨_, _, _, _, _, _, _, _, _, _, _, rfl, rfl, by simp⟩
    · unfold drv_row.f drv_again.f
      cases w
      · exact ⟨_, _, _, _, _, _, _, _, _, _, _, rfl, rfl, by simp⟩
      · exact ⟨_, _, _, _, _, _, _, _, _, _, _, rfl, rfl, by simp⟩
theorem same9 (a b c d e f g : Int) (p q : Bool) : (!(a == a) || (!(b == b) || (!(p == p) || (!(c == c) || (!(d == d) || (!(e == e) || (!(q == q) || (!(f == f) || (!(g == g)))))))))) = false := by simp
theorem set_no (a i : Int) (p : Bool) (b s e : Int) (t : Bool) (l q : Int) (w : Bool) (n : Int) (hg : ¬ (Dr.goodD a i b s e l q = true ∧ 1 ≤ n ∧ n ≤ 250)) (m : Nat) : drv_Set.f (m + 6) a i p b s e t l q w n = some (0, 0, false, 0, 0, 0, false, 0, 0, 1) := by
  unfold drv_Set.f drv_Good.f
  rw [Option.bind_some]
  by_cases h : Dr.goodD a i b s e l q = true
  · rw [if_pos h]
    by_cases h1 : n < 1
    · rw [if_pos h1]
      simp only [drv_Set.j0, if_true]
    · rw [if_neg h1, decide_eq_true (show n > 250 from Int.not_le.1 (fun h3 => hg ⟨h, by omega, h3⟩))]
      simp only [drv_Set.j0, if_true]
  · rw [if_neg h]
    simp only [drv_Set.j0, if_true]
theorem j8_ok (x0 : List (S29)) (x3 : Int) (k : Nat) (H : gimballaw9_DrvExact.l0 (k + 2) x0 (wrap64 (x3 + 1)) = some true) (a i : Int) (w : Bool) (p s e : Int) (t : Bool) (l q : Int) (want : Bool) (n st : Int) (data : List Int) :
    gimballaw9_DrvExact.j8 (k + 3) x0 x3 false a i w p s e t l q want n st data = some true := by
  simp only [gimballaw9_DrvExact.j8]
  rw [if_neg (by decide), may_good]
  unfold drv_New.f drv_Good.f
  simp only [Option.bind_some, gimballaw9_num.f]
  by_cases hg : Dr.goodD a i 1 0 0 0 0 = true
  · rw [hg]
    simp only [if_true, Option.bind_some]
    rw [if_neg (by decide), if_neg (by simp)]
    exact H
  · rw [Bool.eq_false_iff.2 hg]
    simp only [Bool.false_eq_true, if_false, Option.bind_some, if_true]
    rw [if_neg (by decide), if_neg (by decide)]
    exact H
theorem j7_ok (x0 : List (S29)) (x3 : Int) (k : Nat) (hk : 500 < k) (a i : Int) (w : Bool) (p s e : Int) (t : Bool) (l q : Int) (want : Bool) (n st : Int) (data : List Int) (hd : data.length ≤ 400)
    (x5 cs cn ct : Int) (raws : List (S55)) (th fl : Bool) (s1 s2 : Int) (s3 : Bool) (s4 s5 s6 : Int) (s7 : Bool) (s8 s9 : Int) (c1 c2 : Int) (c3 : Bool) (c4 c5 c6 : Int) (c7 : Bool) (c8 c9 : Int) (t1 t2 : Int) (t3 : List Int) (t4 : Int)
    (hS : drv_Set.f k a i w p s e t l q want n = some (s1, s2, s3, s4, s5, s6, s7, s8, s9, cs)) (hN : drv_Next.f a i w p s e t l q = some (t1, t2, t3, t4, th, cn))
    (hT : drv_Take.f k a i w p s e t l q st data = some (c1, c2, c3, c4, c5, c6, c7, c8, c9, raws, fl, ct)) (hC : drv_Check.f a i w p s e t l q = some x5) (h3 : t3.length ≤ 1) (hr : raws.length ≤ 16)
    (H : gimballaw9_DrvExact.j8 k x0 x3 false a i w p s e t l q want n st data = some true) :
    gimballaw9_DrvExact.j7 (k + 1) x0 x3 x5 cs cn ct raws th fl a i w p s e t l q want n st data s1 s2 s3 s4 s5 s6 s7 s8 s9 c1 c2 c3 c4 c5 c6 c7 c8 c9 t1 t2 t3 t4 = some true := by
  simp only [gimballaw9_DrvExact.j7]
  rw [hS, hN, copy_f st data (by omega) k (by omega)]
  simp only [Option.bind_some]
  rw [hT, hC]
  simp only [Option.bind_some, gimballaw9_num.f, if_true, same9, Bool.false_eq_true, if_false, bne_self_eq_false]
  have eT : gimbalref0_EqTx.f k t1 t2 t3 t4 t1 t2 t3 t4 = some true := by
    unfold gimbalref0_EqTx.f
    rw [if_pos rfl, if_pos rfl, eqb_f t3 (by omega) k (by omega)]
    simp
  rw [eT]
  simp only [Option.bind_some, if_true]
  rw [eq_f raws (by omega) k (by omega)]
  simp only [Option.bind_some, if_true]
  have eA : gimbalref0_EqAnswer.f k st data st data = some true := by
    unfold gimbalref0_EqAnswer.f
    rw [if_pos rfl, eqb_f data (by omega) k (by omega)]
    rfl
  rw [eA]
  exact H
theorem j5_good (x0 : List (S29)) (x3 : Int) (k : Nat) (hk : 500 < k) (a i : Int) (w : Bool) (p s e : Int) (t : Bool) (l q : Int) (want : Bool) (n st : Int) (data : List Int) (hd : data.length ≤ 400) (hb : isBytes data)
    (hg : Dr.goodD a i p s e l q = true) (cs s1 s2 : Int) (s3 : Bool) (s4 s5 s6 : Int) (s7 : Bool) (s8 s9 : Int)
    (hS : drv_Set.f (k + 1) a i w p s e t l q want n = some (s1, s2, s3, s4, s5, s6, s7, s8, s9, cs))
    (H : gimballaw9_DrvExact.j8 (k + 1) x0 x3 false a i w p s e t l q want n st data = some true) :
    gimballaw9_DrvExact.j5 (k + 4) x0 x3 0 cs 0 0 [] false false a i w p s e t l q want n st data s1 s2 s3 s4 s5 s6 s7 s8 s9 0 0 false 0 0 0 false 0 0 0 0 0 = some true := by
  have hC : drv_Check.f a i w p s e t l q = some 0 := by
    unfold drv_Check.f drv_Good.f
    rw [Option.bind_some, if_pos hg]
  simp only [gimballaw9_DrvExact.j5, if_true]
  rcases next_both a i w p s e t l q hg with ⟨t1, t2, t3, t4, e1, e2, e3, e4, e5, e6, e7⟩ | ⟨e1, e2⟩
  · rw [e2]
    simp only [Option.bind_some, if_true, gimballaw9_DrvExact.j6]
    obtain ⟨c1, c2, c3, c4, c5, c6, c7, c8, c9, raws, fl, f1, f2, f3⟩ := take_both a i w p s e t l q st data hb hg t1 t2 t3 t4 e1 e2 ⟨e4, e5⟩ e6 e7 k (by omega)
    have f2' := gimbalref9_Take.mono a i w p s e t l q st data (k + 1) _ f2
    rw [f2']
    simp only [Option.bind_some]
    exact j7_ok x0 x3 (k + 1) (by omega) a i w p s e t l q want n st data hd 0 cs 0 0 raws true fl s1 s2 s3 s4 s5 s6 s7 s8 s9 c1 c2 c3 c4 c5 c6 c7 c8 c9 t1 t2 t3 t4 hS e1 f1 hC e3 f3 H
  · rw [e2]
    simp only [Option.bind_some, Bool.false_eq_true, if_false, gimballaw9_DrvExact.j6]
    rw [if_neg (by decide)]
    have f1 : drv_Take.f (k + 1) a i w p s e t l q st data = some (0, 0, false, 0, 0, 0, false, 0, 0, [], false, 1) := by
      unfold drv_Take.f
      rw [e1]
      simp
    exact j7_ok x0 x3 (k + 1) (by omega) a i w p s e t l q want n st data hd 0 cs 0 1 [] false false s1 s2 s3 s4 s5 s6 s7 s8 s9 0 0 false 0 0 0 false 0 0 0 0 [] 0 hS e1 f1 hC (by simp) (by simp) H
theorem j2_ok (x0 : List (S29)) (x3 : Int) (k : Nat) (hk : 500 < k) (a i : Int) (w : Bool) (p s e : Int) (t : Bool) (l q : Int) (want : Bool) (n st : Int) (data : List Int) (hd : data.length ≤ 400) (hb : isBytes data)
    (H : gimballaw9_DrvExact.l0 (k + 5) x0 (wrap64 (x3 + 1)) = some true) :
    gimballaw9_DrvExact.j2 (k + 12) x0 x3 (if Dr.goodD a i p s e l q = true then 0 else 1) a i w p s e t l q want n st data = some true := by
  have H8 : gimballaw9_DrvExact.j8 (k + 6) x0 x3 false a i w p s e t l q want n st data = some true := j8_ok x0 x3 (k + 3) H a i w p s e t l q want n st data
  by_cases hg : Dr.goodD a i p s e l q = true
  · rw [if_pos hg]
    by_cases hn : 1 ≤ n ∧ n ≤ 250
    · have hS := drvSet_at a i w p s e t l q want n hg hn.1 hn.2 k
      have J : gimballaw9_DrvExact.j4 (k + 10) x0 x3 0 0 0 0 a i w p s e t l q want n st data = some true := by
        simp only [gimballaw9_DrvExact.j4, if_true]
        unfold gimbalref9_Set.f
        simp only [Option.bind_some]
        exact j5_good x0 x3 (k + 5) (by omega) a i w p s e t l q want n st data hd hb hg 0 _ _ _ _ _ _ _ _ _ hS H8
      simp only [gimballaw9_DrvExact.j2]
      rw [if_neg (by omega), decide_eq_false (by omega)]
      simp only [gimballaw9_DrvExact.j3, Bool.false_eq_true, if_false]
      exact J
    · have hS := set_no a i w p s e t l q want n (fun h => hn ⟨h.2.1, h.2.2⟩) k
      have J : gimballaw9_DrvExact.j4 (k + 10) x0 x3 0 1 0 0 a i w p s e t l q want n st data = some true := by
        simp only [gimballaw9_DrvExact.j4]
        rw [if_neg (by decide)]
        exact j5_good x0 x3 (k + 5) (by omega) a i w p s e t l q want n st data hd hb hg 1 _ _ _ _ _ _ _ _ _ hS H8
      simp only [gimballaw9_DrvExact.j2]
      by_cases h1 : n < 1
      · rw [if_pos h1]
        simp only [gimballaw9_DrvExact.j3, if_true]
        exact J
      · rw [if_neg h1, decide_eq_true (by omega)]
        simp only [gimballaw9_DrvExact.j3, if_true]
        exact J
  · rw [if_neg hg]
    have hS := set_no a i w p s e t l q want n (fun h => hg h.1) k
    have hN : drv_Next.f a i w p s e t l q = some (0, 0, [], 0, false, 1) := by
      unfold drv_Next.f
      rw [if_neg hg]
    have hT : drv_Take.f (k + 6) a i w p s e t l q st data = some (0, 0, false, 0, 0, 0, false, 0, 0, [], false, 1) := by
      unfold drv_Take.f
      rw [hN]
      simp
    have hC : drv_Check.f a i w p s e t l q = some 1 := by
      unfold drv_Check.f drv_Good.f
      rw [Option.bind_some, if_neg hg]
    have J7 := j7_ok x0 x3 (k + 6) (by omega) a i w p s e t l q want n st data hd 1 1 1 1 [] false false 0 0 false 0 0 0 false 0 0 0 0 false 0 0 0 false 0 0 0 0 [] 0 hS hN hT hC (by simp) (by simp) H8
    have J : gimballaw9_DrvExact.j4 (k + 10) x0 x3 1 1 1 1 a i w p s e t l q want n st data = some true := by
      simp only [gimballaw9_DrvExact.j4]
      rw [if_neg (by decide)]
      simp only [gimballaw9_DrvExact.j5]
      rw [if_neg (by decide)]
      simp only [gimballaw9_DrvExact.j6]
      rw [if_neg (by decide)]
      exact J7
    simp only [gimballaw9_DrvExact.j2]
    by_cases h1 : n < 1
    · rw [if_pos h1]
      simp only [gimballaw9_DrvExact.j3, if_true]
      exact J
    · rw [if_neg h1]
      cases decide (n > 250)
      · simp only [gimballaw9_DrvExact.j3, Bool.false_eq_true, if_false]
        exact J
      · simp only [gimballaw9_DrvExact.j3, if_true]
        exact J
theorem loop (L : List (S29)) (hb : ∀ x ∈ L, isBytes x.f3.f1) (d : Nat) : ∀ (i : Nat), 30 ≤ i + d → i ≤ 30 → ∀ (k : Nat), 9 * d + 600 ≤ k → gimballaw9_DrvExact.l0 k L (i : Int) = some true := by
  induction d with
  | zero =>
    intro i hi hi2 k hk
    obtain ⟨k, rfl⟩ : ∃ m, k = m + 2 := ⟨k - 2, by omega⟩
    simp only [gimballaw9_DrvExact.l0]
    have e0 : decide ((i : Int) < 30) = false := decide_eq_false (by omega)
    rw [e0]
    simp only [gimballaw9_DrvExact.j1, Bool.false_eq_true, if_false, gimballaw9_wakes.f, Option.bind_some, ite_self]
  | succ d ih =>
    intro i hi hi2 k hk
    obtain ⟨k, rfl⟩ : ∃ m, k = m + 14 := ⟨k - 14, by omega⟩
    simp only [gimballaw9_DrvExact.l0]
    by_cases hl : (i : Int) < (L.length : Int)
    · rw [if_pos hl]
      by_cases h30 : (i : Int) < 30
      · rw [decide_eq_true h30]
        simp only [gimballaw9_DrvExact.j1, if_true]
        rw [if_pos (by omega), if_pos hl]
        have hx : rd_T29 L (i : Int) ∈ L := by
          unfold rd_T29
          rw [Int.toNat_natCast, List.getD_eq_getElem?_getD, List.getElem?_eq_getElem (by omega), Option.getD_some]
          exact List.getElem_mem _
        have hbx := hb _ hx
        generalize rd_T29 L (i : Int) = x at hbx
        clear hx
        by_cases h4 : ((x.f3.f1).length : Int) > 400
        · rw [if_pos h4]
        · rw [if_neg h4, may_good]
          simp only [Option.bind_some]
          have H := j2_ok L (i : Int) k (by omega) x.f0.f0 x.f0.f1 x.f0.f2 x.f0.f3 x.f0.f4 x.f0.f5 x.f0.f6 x.f0.f7 x.f0.f8 x.f1 x.f2 x.f3.f0 x.f3.f1 (by omega) hbx (by rw [w64 (by omega) (by omega), show (i : Int) + 1 = ((i + 1 : Nat) : Int) by omega]; exact ih (i + 1) (by omega) (by omega) (k + 5) (by omega))
          by_cases hg : Dr.goodD x.f0.f0 x.f0.f1 x.f0.f3 x.f0.f4 x.f0.f5 x.f0.f7 x.f0.f8 = true
          · rw [if_pos hg] at H ⊢; exact H
          · rw [if_neg hg] at H ⊢; exact H
      · rw [decide_eq_false h30]
        simp only [gimballaw9_DrvExact.j1, Bool.false_eq_true, if_false, gimballaw9_wakes.f, Option.bind_some]
    · rw [if_neg hl]
      simp only [gimballaw9_DrvExact.j1, Bool.false_eq_true, if_false, gimballaw9_wakes.f, Option.bind_some]
theorem DrvExact : gimballaw9_DrvExact.Pure := by
  intro p hp
  refine ⟨1000, ?_⟩
  unfold gimballaw9_DrvExact.f
  exact loop p (fun x hx y hy => wf_u8 ((hp.2 x hx).2.2.2.2.2 y hy)) 30 0 (by omega) (by omega) 1000 (by omega)
end Go.Proofs.Ytnlmbejkemkkoaa.Pure
