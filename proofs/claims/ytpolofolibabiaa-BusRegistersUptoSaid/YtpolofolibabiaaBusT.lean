/-
  Layer 8: plain laws of what may be, of bytes, of one device.
  No conditions.
-/
import Derived.Test.YtpolofolibabiaaBusR
namespace Go.Proofs.Ytpolofolibabiaa.Bs
open Go Go.RowKit Go.Lib Go.Proofs.YtpolofolibabiaaW.PrintWords Go.Proofs.YtpolofolibabiaaW.PrintLast Go.Proofs.YtpolofolibabiaaW.PrintMore
set_option linter.unusedVariables false
set_option linter.unusedSimpArgs false
theorem w64 {x : Int} (h : -9223372036854775808 ≤ x) (h2 : x < 9223372036854775808) : wrap64 x = x := by
  unfold wrap64
  omega
theorem w64s (n : Nat) (h : n < 9223372036854775807) : wrap64 ((n : Int) + 1) = ((n + 1 : Nat) : Int) := by
  rw [w64 (by omega) (by omega)]
  omega
theorem eqBytes_loop (l m : List Int) (hl : l.length < 9223372036854775807) (he : l = m) (d : Nat) : ∀ j : Nat, j + d = l.length → Ev (fun k => gimbalref0_EqBytes.l0 k l m (j : Int)) true := by
  induction d with
  | zero =>
    intro j hj
    refine Ev.step (f := fun _ => some true) (fun k => ?_) (Ev.now _)
    simp only [gimbalref0_EqBytes.l0]
    rw [if_neg (by omega)]
  | succ d ih =>
    intro j hj
    have hm : m.length = l.length := by rw [he]
    refine Ev.step (fun k => ?_) (ih (j + 1) (by omega))
    simp only [gimbalref0_EqBytes.l0]
    rw [if_pos (by omega), if_pos (by omega), if_pos (by omega), if_pos (by rw [he]), w64s j (by omega)]
theorem eqBytes_same (l m : List Int) (hl : l.length < 9223372036854775807) (he : l = m) : Ev (fun k => gimbalref0_EqBytes.f k l m) true := by
  refine Ev.congr (f := fun k => gimbalref0_EqBytes.l0 k l m 0) (fun k => ?_) (eqBytes_loop l m hl he l.length 0 (by omega))
  simp only [gimbalref0_EqBytes.f]
  rw [if_pos (by rw [he])]
abbrev SR := S60
abbrev SM := S35
abbrev SF := S54
def rawOk (s : SR) : Prop := -32768 ≤ s.f0 ∧ s.f0 ≤ 32767 ∧ -32768 ≤ s.f1 ∧ s.f1 ≤ 32767 ∧ -32768 ≤ s.f2 ∧ s.f2 ≤ 32767 ∧ -128 ≤ s.f3 ∧ s.f3 ≤ 127
def mOk (s : SM) : Prop := 0 ≤ s.f0 ∧ s.f0 ≤ 127 ∧ 0 ≤ s.f1 ∧ s.f1 ≤ 255 ∧ s.f2.length ≤ 4096 ∧ ∀ j : Nat, j < s.f2.length → rawOk (rd_T60 s.f2 j)
def fOk (s : SF) : Prop := 1 ≤ s.f0 ∧ 1 ≤ s.f1 ∧ s.f1 ≤ 3 ∧ 0 ≤ s.f2
theorem heavy_total (ms : List SM) (n : Int) : ∀ (d j : Nat) (acc : Int), j + d = 40 → ∃ b, Ev (fun k => gimballaw8_Heavy.l0 k ms acc (j : Int)) b := by
  intro d
  induction d with
  | zero =>
    intro j acc hj
    by_cases h1 : (j : Int) < (ms.length : Int)
    · by_cases h2 : acc > 600
      · exact ⟨true, Ev.step (f := fun _ => some true) (fun k => by simp only [gimballaw8_Heavy.l0]; rw [if_pos h1, if_neg (by omega), if_pos h2]) (Ev.now _)⟩
      · exact ⟨_, Ev.step (f := fun _ => some (decide ((ms.length : Int) > 40))) (fun k => by simp only [gimballaw8_Heavy.l0]; rw [if_pos h1, if_neg (by omega), if_neg h2]) (Ev.now _)⟩
    · by_cases h2 : acc > 600
      · exact ⟨true, Ev.step (f := fun _ => some true) (fun k => by simp only [gimballaw8_Heavy.l0]; rw [if_neg h1, if_pos h2]) (Ev.now _)⟩
      · exact ⟨_, Ev.step (f := fun _ => some (decide ((ms.length : Int) > 40))) (fun k => by simp only [gimballaw8_Heavy.l0]; rw [if_neg h1, if_neg h2]) (Ev.now _)⟩
  | succ d ih =>
    intro j acc hj
    by_cases h1 : (j : Int) < (ms.length : Int)
    · obtain ⟨b, hb⟩ := ih (j + 1) (wrap64 (acc + (((rd_T35 ms j).f2).length : Int))) (by omega)
      exact ⟨b, Ev.step (fun k => by simp only [gimballaw8_Heavy.l0]; rw [if_pos h1, if_pos (by omega), if_pos (by omega), w64s j (by omega)]) hb⟩
    · by_cases h2 : acc > 600
      · exact ⟨true, Ev.step (f := fun _ => some true) (fun k => by simp only [gimballaw8_Heavy.l0]; rw [if_neg h1, if_pos h2]) (Ev.now _)⟩
      · exact ⟨_, Ev.step (f := fun _ => some (decide ((ms.length : Int) > 40))) (fun k => by simp only [gimballaw8_Heavy.l0]; rw [if_neg h1, if_neg h2]) (Ev.now _)⟩
theorem heavy_f (ms : List SM) (fs : List SF) : ∃ b k, gimballaw8_Heavy.f k ms fs = some b := by
  obtain ⟨b, hb⟩ := heavy_total ms 0 40 0 (fs.length : Int) rfl
  obtain ⟨k, hk⟩ := hb.rounds
  exact ⟨b, k, by unfold gimballaw8_Heavy.f; exact hk⟩
theorem in_f (a lo hi : Int) : gimbalref8_in.f a lo hi = some (decide (lo ≤ a ∧ a ≤ hi)) := by
  unfold gimbalref8_in.f
  by_cases h : a ≥ lo
  · rw [if_pos h]
    congr 1
    exact decide_eq_decide.2 ⟨fun q => ⟨h, q⟩, fun q => q.2⟩
  · rw [if_neg h]
    congr 1
    exact (decide_eq_false (fun q => h q.1)).symm
theorem mayRaw_f (a b c d : Int) : gimbalref8_MayRaw.f a b c d = some (decide (-32768 ≤ a ∧ a ≤ 32767 ∧ -32768 ≤ b ∧ b ≤ 32767 ∧ -32768 ≤ c ∧ c ≤ 32767 ∧ -128 ≤ d ∧ d ≤ 127)) := by
  unfold gimbalref8_MayRaw.f
  simp only [in_f, Option.bind_some, decide_eq_true_eq]
  by_cases h1 : -32768 ≤ a ∧ a ≤ 32767
  · rw [if_pos h1]
    by_cases h2 : -32768 ≤ b ∧ b ≤ 32767
    · rw [if_pos h2]
      by_cases h3 : -32768 ≤ c ∧ c ≤ 32767
      · rw [if_pos h3]
        congr 1
        exact decide_eq_decide.2 ⟨fun q => ⟨h1.1, h1.2, h2.1, h2.2, h3.1, h3.2, q.1, q.2⟩, fun q => ⟨q.2.2.2.2.2.2.1, q.2.2.2.2.2.2.2⟩⟩
      · rw [if_neg h3]
        congr 1
        exact (decide_eq_false (fun q => h3 ⟨q.2.2.2.2.1, q.2.2.2.2.2.1⟩)).symm
    · rw [if_neg h2]
      congr 1
      exact (decide_eq_false (fun q => h2 ⟨q.2.2.1, q.2.2.2.1⟩)).symm
  · rw [if_neg h1]
    congr 1
    exact (decide_eq_false (fun q => h1 ⟨q.1, q.2.1⟩)).symm
theorem goodRaw_f (a b c d : Int) (h : -32768 ≤ a ∧ a ≤ 32767 ∧ -32768 ≤ b ∧ b ≤ 32767 ∧ -32768 ≤ c ∧ c ≤ 32767 ∧ -128 ≤ d ∧ d ≤ 127) : Ev (fun k => bus_GoodRaw.f k a b c d) true := by
  obtain ⟨h1, h2, h3, h4, h5, h6, h7, h8⟩ := h
  refine Ev.of (fun k => bus_GoodRaw.mono a b c d k) (k := 4) ?_
  have e1 : ¬ a < -32768 := by omega
  have e2 : ¬ a ≥ 32768 := by omega
  have e3 : ¬ b < -32768 := by omega
  have e4 : ¬ b ≥ 32768 := by omega
  have e5 : ¬ c < -32768 := by omega
  have e6 : ¬ c ≥ 32768 := by omega
  have e7 : d ≥ -128 := by omega
  unfold bus_GoodRaw.f
  simp [bus_GoodRaw.l0, rd, wrap64, e1, e2, e3, e4, e5, e6, e7, h7, h8]
theorem goodModel_loop (s : SM) (h : mOk s) : ∀ d j : Nat, j + d = s.f2.length → Ev (fun k => bus_goodModel.l0 k s.f2 (s.f2.length : Int) (j : Int)) true := by
  intro d
  induction d with
  | zero =>
    intro j hj
    exact Ev.step (f := fun _ => some true) (fun k => by simp only [bus_goodModel.l0]; rw [if_neg (by omega)]) (Ev.now _)
  | succ d ih =>
    intro j hj
    have hl := h.2.2.2.2.1
    have hr := h.2.2.2.2.2 j (by omega)
    refine Ev.step (f := fun k => (bus_GoodRaw.f k ((rd_T60 s.f2 j).f0) ((rd_T60 s.f2 j).f1) ((rd_T60 s.f2 j).f2) ((rd_T60 s.f2 j).f3)).bind fun t => (if t = true then (bus_goodModel.l0 k s.f2 (s.f2.length : Int) ((j + 1 : Nat) : Int)) else (some false))) (fun k => ?_) (Ev.bind (goodRaw_f _ _ _ _ hr) (Ev.congr (fun k => if_pos rfl) (ih (j + 1) (by omega))))
    simp only [bus_goodModel.l0]
    rw [if_pos (by omega), if_pos (by omega), if_pos (by omega), w64s j (by omega)]
theorem goodModel_f (s : SM) (h : mOk s) : ∃ k, bus_goodModel.f k s.f0 s.f1 s.f2 = some true := by
  have h1 := goodModel_loop s h s.f2.length 0 (by omega)
  have h2 : Ev (fun k => bus_goodModel.j0 k false s.f0 s.f1 s.f2) true := Ev.step (fun k => by simp only [bus_goodModel.j0]; rw [if_neg Bool.noConfusion]; rfl) h1
  obtain ⟨k, hk⟩ := h2.rounds
  obtain ⟨a1, a2, a3, a4, a5, a6⟩ := h
  refine ⟨k, ?_⟩
  unfold bus_goodModel.f
  rw [if_neg (by omega), if_neg (by omega), if_neg (by omega), if_neg (by omega), show decide ((s.f2.length : Int) > 4096) = false from decide_eq_false (by omega)]
  exact hk
theorem may_l3 (fs : List SF) (hl : fs.length ≤ 4096) : ∀ d j : Nat, j + d = fs.length → (∀ i : Nat, i < j → fOk (rd_T54 fs i)) → ∃ b, Ev (fun k => gimbalref8_May.l3 k fs (j : Int)) b ∧ (b = true → ∀ i : Nat, i < fs.length → fOk (rd_T54 fs i)) := by
  intro d
  induction d with
  | zero =>
    intro j hj hi
    exact ⟨true, Ev.step (f := fun _ => some true) (fun k => by simp only [gimbalref8_May.l3]; rw [if_neg (by omega)]) (Ev.now _), fun _ i hi2 => hi i (by omega)⟩
  | succ d ih =>
    intro j hj hi
    by_cases h1 : (rd_T54 fs j).f0 < 1
    · exact ⟨false, Ev.step (f := fun _ => some false) (fun k => by simp only [gimbalref8_May.l3]; rw [if_pos (by omega), if_pos (by omega), if_pos h1]) (Ev.now _), fun e => by cases e⟩
    · by_cases h2 : 1 ≤ (rd_T54 fs j).f1 ∧ (rd_T54 fs j).f1 ≤ 3
      · by_cases h3 : (rd_T54 fs j).f2 < 0
        · exact ⟨false, Ev.step (f := fun _ => some false) (fun k => by simp only [gimbalref8_May.l3]; rw [if_pos (by omega), if_pos (by omega), if_neg h1, in_f, Option.bind_some, if_pos (by exact decide_eq_true h2), if_pos h3]) (Ev.now _), fun e => by cases e⟩
        · obtain ⟨b, hb, hb2⟩ := ih (j + 1) (by omega) (fun i hij => by
            by_cases e : i = j
            · subst e
              exact ⟨by omega, h2.1, h2.2, by omega⟩
            · exact hi i (by omega))
          exact ⟨b, Ev.step (fun k => by simp only [gimbalref8_May.l3]; rw [if_pos (by omega), if_pos (by omega), if_neg h1, in_f, Option.bind_some, if_pos (by exact decide_eq_true h2), if_neg h3, w64s j (by omega)]) hb, hb2⟩
      · exact ⟨false, Ev.step (f := fun _ => some false) (fun k => by simp only [gimbalref8_May.l3]; rw [if_pos (by omega), if_pos (by omega), if_neg h1, in_f, Option.bind_some, if_neg (by simp only [decide_eq_true_eq]; exact h2)]) (Ev.now _), fun e => by cases e⟩
def May1 (ms : List SM) (i : Nat) : Prop := mOk (rd_T35 ms i) ∧ ∀ j : Nat, j < i → (rd_T35 ms j).f0 ≠ (rd_T35 ms i).f0
theorem may_l2 (ms : List SM) (fs : List SF) (i : Nat) (hm : ms.length ≤ 8) (hi : i < ms.length) (R : Prop) (hn : ∃ b, Ev (fun k => gimbalref8_May.l0 k ms fs ((i + 1 : Nat) : Int)) b ∧ (b = true → R)) : ∀ d j : Nat, j + d = i → (∀ m : Nat, m < j → (rd_T35 ms m).f0 ≠ (rd_T35 ms i).f0) → ∃ b, Ev (fun k => gimbalref8_May.l2 k ms fs (i : Int) (j : Int)) b ∧ (b = true → R ∧ ∀ m : Nat, m < i → (rd_T35 ms m).f0 ≠ (rd_T35 ms i).f0) := by
  intro d
  induction d with
  | zero =>
    intro j hj hm2
    obtain ⟨b, hb, hb2⟩ := hn
    exact ⟨b, Ev.step (fun k => by simp only [gimbalref8_May.l2]; rw [if_neg (by omega), w64s i (by omega)]) hb, fun e => ⟨hb2 e, fun m hmi => hm2 m (by omega)⟩⟩
  | succ d ih =>
    intro j hj hm2
    by_cases h1 : (rd_T35 ms j).f0 = (rd_T35 ms i).f0
    · exact ⟨false, Ev.step (f := fun _ => some false) (fun k => by simp only [gimbalref8_May.l2]; rw [if_pos (by omega), if_pos (by omega), if_pos (by omega), if_pos (by omega), if_pos (by omega), if_pos h1]) (Ev.now _), fun e => by cases e⟩
    · obtain ⟨b, hb, hb2⟩ := ih (j + 1) (by omega) (fun m hmj => by
        by_cases e : m = j
        · subst e; exact h1
        · exact hm2 m (by omega))
      exact ⟨b, Ev.step (fun k => by simp only [gimbalref8_May.l2]; rw [if_pos (by omega), if_pos (by omega), if_pos (by omega), if_pos (by omega), if_pos (by omega), if_neg h1, w64s j (by omega)]) hb, hb2⟩
theorem may_l1 (ms : List SM) (fs : List SF) (i : Nat) (hi : i < ms.length) (hl : (rd_T35 ms i).f2.length ≤ 4096) (R : Prop) (hn : ∃ b, Ev (fun k => gimbalref8_May.l2 k ms fs (i : Int) 0) b ∧ (b = true → R)) : ∀ d j : Nat, j + d = (rd_T35 ms i).f2.length → (∀ m : Nat, m < j → rawOk (rd_T60 (rd_T35 ms i).f2 m)) → ∃ b, Ev (fun k => gimbalref8_May.l1 k ms fs (i : Int) (j : Int)) b ∧ (b = true → R ∧ ∀ m : Nat, m < (rd_T35 ms i).f2.length → rawOk (rd_T60 (rd_T35 ms i).f2 m)) := by
  intro d
  induction d with
  | zero =>
    intro j hj hm2
    obtain ⟨b, hb, hb2⟩ := hn
    have hnl : ¬ (j : Int) < ((rd_T35 ms (i : Int)).f2.length : Int) := by
      have : (rd_T35 ms (i : Int)).f2.length = (rd_T35 ms i).f2.length := rfl
      omega
    exact ⟨b, Ev.step (fun k => by simp only [gimbalref8_May.l1]; rw [if_pos (by omega), if_pos (by omega), if_neg hnl]) hb, fun e => ⟨hb2 e, fun m hmi => hm2 m (by omega)⟩⟩
  | succ d ih =>
    intro j hj hm2
    have hlt : (j : Int) < ((rd_T35 ms (i : Int)).f2.length : Int) := by
      have : (rd_T35 ms (i : Int)).f2.length = (rd_T35 ms i).f2.length := rfl
      omega
    by_cases h1 : rawOk (rd_T60 (rd_T35 ms i).f2 j)
    · obtain ⟨b, hb, hb2⟩ := ih (j + 1) (by omega) (fun m hmj => by
        by_cases e : m = j
        · subst e; exact h1
        · exact hm2 m (by omega))
      exact ⟨b, Ev.step (fun k => by simp only [gimbalref8_May.l1]; rw [if_pos (by omega), if_pos (by omega), if_pos hlt, if_pos (by omega), mayRaw_f, Option.bind_some, if_pos (by exact decide_eq_true h1), w64s j (by omega)]) hb, hb2⟩
    · exact ⟨false, Ev.step (f := fun _ => some false) (fun k => by simp only [gimbalref8_May.l1]; rw [if_pos (by omega), if_pos (by omega), if_pos hlt, if_pos (by omega), mayRaw_f, Option.bind_some, if_neg (by simp only [decide_eq_true_eq]; exact h1)]) (Ev.now _), fun e => by cases e⟩
theorem may_l0 (ms : List SM) (fs : List SF) (hm : ms.length ≤ 8) (hf : fs.length ≤ 4096) : ∀ d i : Nat, i + d = ms.length → ∃ b, Ev (fun k => gimbalref8_May.l0 k ms fs (i : Int)) b ∧ (b = true → (∀ m : Nat, i ≤ m → m < ms.length → May1 ms m) ∧ ∀ m : Nat, m < fs.length → fOk (rd_T54 fs m)) := by
  intro d
  induction d with
  | zero =>
    intro i hi
    obtain ⟨b, hb, hb2⟩ := may_l3 fs hf fs.length 0 (by omega) (fun i hi => absurd hi (Nat.not_lt_zero i))
    exact ⟨b, Ev.step (fun k => by simp only [gimbalref8_May.l0]; rw [if_neg (by omega)]; rfl) hb, fun e => ⟨fun m h1 h2 => by omega, hb2 e⟩⟩
  | succ d ih =>
    intro i hi
    have hj2 : ∀ b, (b = true) → ∃ c, Ev (fun k => gimbalref8_May.j2 k ms fs (i : Int) b) c ∧ (c = true → (∀ m : Nat, i ≤ m → m < ms.length → May1 ms m) ∧ ∀ m : Nat, m < fs.length → fOk (rd_T54 fs m)) := fun b hb => ⟨false, Ev.step (f := fun _ => some false) (fun k => by simp only [gimbalref8_May.j2]; rw [if_pos hb]) (Ev.now _), fun e => by cases e⟩
    by_cases h1 : 0 ≤ (rd_T35 ms i).f0 ∧ (rd_T35 ms i).f0 ≤ 127
    · by_cases h2 : 0 ≤ (rd_T35 ms i).f1 ∧ (rd_T35 ms i).f1 ≤ 255
      · by_cases h3 : (rd_T35 ms i).f2.length ≤ 4096
        · obtain ⟨b, hb, hb2⟩ := may_l1 ms fs i (by omega) h3 _ (may_l2 ms fs i hm (by omega) _ (ih (i + 1) (by omega)) i 0 (by omega) (fun m hmm => absurd hmm (Nat.not_lt_zero m))) (rd_T35 ms i).f2.length 0 (by omega) (fun m hmm => absurd hmm (Nat.not_lt_zero m))
          refine ⟨b, Ev.step (f := fun k => gimbalref8_May.j2 k ms fs (i : Int) false) (fun k => ?_) (Ev.step (fun k => by simp only [gimbalref8_May.j2]; rw [if_neg Bool.noConfusion]; rfl) hb), fun e => ?_⟩
          · simp only [gimbalref8_May.l0]
            rw [if_pos (by omega), if_pos (by omega), in_f, Option.bind_some, if_pos (by exact decide_eq_true h1), in_f, Option.bind_some, if_pos (by exact decide_eq_true h2), show decide (((rd_T35 ms (i : Int)).f2.length : Int) > 4096) = false from decide_eq_false (by have : (rd_T35 ms (i : Int)).f2.length = (rd_T35 ms i).f2.length := rfl; omega)]
          · obtain ⟨⟨⟨q1, q2⟩, q3⟩, q4⟩ := hb2 e
            refine ⟨fun m hm1 hm2 => ?_, q2⟩
            by_cases e2 : m = i
            · subst e2
              exact ⟨⟨h1.1, h1.2, h2.1, h2.2, h3, q4⟩, q3⟩
            · exact q1 m (by omega) hm2
        · obtain ⟨c, hc, hc2⟩ := hj2 (decide (((rd_T35 ms (i : Int)).f2.length : Int) > 4096)) (decide_eq_true (by have : (rd_T35 ms (i : Int)).f2.length = (rd_T35 ms i).f2.length := rfl; omega))
          exact ⟨c, Ev.step (fun k => by simp only [gimbalref8_May.l0]; rw [if_pos (by omega), if_pos (by omega), in_f, Option.bind_some, if_pos (by exact decide_eq_true h1), in_f, Option.bind_some, if_pos (by exact decide_eq_true h2)]) hc, hc2⟩
      · obtain ⟨c, hc, hc2⟩ := hj2 true rfl
        exact ⟨c, Ev.step (fun k => by simp only [gimbalref8_May.l0]; rw [if_pos (by omega), if_pos (by omega), in_f, Option.bind_some, if_pos (by exact decide_eq_true h1), in_f, Option.bind_some, if_neg (by simp only [decide_eq_true_eq]; exact h2)]) hc, hc2⟩
    · obtain ⟨c, hc, hc2⟩ := hj2 true rfl
      exact ⟨c, Ev.step (fun k => by simp only [gimbalref8_May.l0]; rw [if_pos (by omega), if_pos (by omega), in_f, Option.bind_some, if_neg (by simp only [decide_eq_true_eq]; exact h1)]) hc, hc2⟩
theorem may_f (ms : List SM) (fs : List SF) : ∃ b k, gimbalref8_May.f k ms fs = some b ∧ (b = true → GoodM ms fs ∧ ∀ i : Nat, i < ms.length → mOk (rd_T35 ms i)) := by
  have hfalse : ∀ b, b = true → ∃ k, gimbalref8_May.j0 k ms fs b = some false := fun b hb => ⟨1, by simp only [gimbalref8_May.j0]; rw [if_pos hb]⟩
  by_cases h1 : ms.length ≤ 8
  · by_cases h2 : fs.length ≤ 4096
    · obtain ⟨b, hb, hb2⟩ := may_l0 ms fs h1 h2 ms.length 0 (by omega)
      have hj : Ev (fun k => gimbalref8_May.j0 k ms fs false) b := Ev.step (fun k => by simp only [gimbalref8_May.j0]; rw [if_neg Bool.noConfusion]; rfl) hb
      obtain ⟨k, hk⟩ := hj.rounds
      refine ⟨b, k, ?_, fun e => ?_⟩
      · unfold gimbalref8_May.f
        rw [if_neg (by omega), show decide ((fs.length : Int) > 4096) = false from decide_eq_false (by omega)]
        exact hk
      · obtain ⟨q1, q2⟩ := hb2 e
        exact ⟨⟨h1, h2, fun i hi => goodModel_f _ (q1 i (Nat.zero_le _) hi).1, fun i hi => (q1 i (Nat.zero_le _) hi).1.2.2.2.2.1, fun i j hj hi => (q1 i (Nat.zero_le _) hi).2 j hj, fun i hi => q2 i hi⟩, fun i hi => (q1 i (Nat.zero_le _) hi).1⟩
    · obtain ⟨k, hk⟩ := hfalse (decide ((fs.length : Int) > 4096)) (decide_eq_true (by omega))
      exact ⟨false, k, by unfold gimbalref8_May.f; rw [if_neg (by omega)]; exact hk, fun e => by cases e⟩
  · obtain ⟨k, hk⟩ := hfalse true rfl
    exact ⟨false, k, by unfold gimbalref8_May.f; rw [if_pos (by omega)]; exact hk, fun e => by cases e⟩
end Go.Proofs.Ytpolofolibabiaa.Bs
