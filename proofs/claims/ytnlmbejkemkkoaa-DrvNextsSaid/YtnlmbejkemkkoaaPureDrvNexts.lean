/-
  The pure law of DrvNexts: the transaction of any driver is its state's.
  No conditions.
-/
import Derived.Test.YtnlmbejkemkkoaaSpecDrvNexts
import Derived.Test.YtnlmbejkemkkoaaOpens
namespace Go.Proofs.Ytnlmbejkemkkoaa.Pure
open Go.RowKit Go.Proofs.Ytnlmbejkemkkoaa Go.Proofs.Ytnlmbejkemkkoaa.Op Go.Proofs.Ytnlmbejkemkkoaa.PDrvNexts Go.Proofs.YtnlmbejkemkkoaaW.PrintWords Go.Proofs.YtnlmbejkemkkoaaW.PrintLast Go.Proofs.YtnlmbejkemkkoaaW.PrintMore
theorem w64 {x : Int} (h : -9223372036854775808 ≤ x) (h2 : x < 9223372036854775808) : wrap64 x = x := by
  unfold wrap64
  omega
theorem w64s (n : Nat) (h : n < 9223372036854775807) : wrap64 ((n : Int) + 1) = ((n + 1 : Nat) : Int) := by
  rw [w64 (by omega) (by omega)]
  omega
theorem eqBytes_loop (l m : List Int) (hl : l.length < 9223372036854775807) (he : l = m) (d : Nat) : ∀ j : Nat, j + d = l.length → Ev (fun k => gimbalref0_EqBytes.l0 k l m (j : Int)) true := by
  induction d with
  | zero =>
    intro j hj
    refine Ev.step (f := fun _ => some true) (fun k => ?_) (Ev.now _)
    simp only [gimbalref0_EqBytes.l0]
    rw [if_neg (by omega)]
  | succ d ih =>
    intro j hj
    have hm : m.length = l.length := by rw [he]
    refine Ev.step (fun k => ?_) (ih (j + 1) (by omega))
    simp only [gimbalref0_EqBytes.l0]
    rw [if_pos (by omega), if_pos (by omega), if_pos (by omega), if_pos (by rw [he]), w64s j (by omega)]
theorem eqBytes_same (l m : List Int) (hl : l.length < 9223372036854775807) (he : l = m) : Ev (fun k => gimbalref0_EqBytes.f k l m) true := by
  refine Ev.congr (f := fun k => gimbalref0_EqBytes.l0 k l m 0) (fun k => ?_) (eqBytes_loop l m hl he l.length 0 (by omega))
  simp only [gimbalref0_EqBytes.f]
  rw [if_pos (by rw [he])]
theorem good_no {a i b c e l q : Int} (h : ¬ (0 ≤ a ∧ a ≤ 127 ∧ 0 ≤ i ∧ i ≤ 255 ∧ 1 ≤ b ∧ b ≤ 250 ∧ 0 ≤ c ∧ c ≤ 8 ∧ 0 ≤ e ∧ e < 3 ∧ 0 ≤ q ∧ q ≤ 1099511627776 ∧ (c = 5 → 1 ≤ l ∧ l ≤ 16) ∧ (c ≠ 5 → l = 0))) : some false = some (Dr.goodD a i b c e l q) := by
  unfold Dr.goodD
  rw [decide_eq_false h]
theorem may_good (a i : Int) (p : Bool) (b c e : Int) (t : Bool) (l q : Int) (k : Nat) : gimbalref9_May.f (k + 2) a i p b c e t l q = some (Dr.goodD a i b c e l q) := by
  unfold gimbalref9_May.f
  simp only [gimbalref9_May.j0, gimbalref9_May.j1, if_true, decide_eq_true_eq]
  by_cases h0 : a < 0
  · rw [if_pos h0]; exact good_no (by omega)
  rw [if_neg h0]
  by_cases h1 : a > 127
  · rw [if_pos h1]; exact good_no (by omega)
  rw [if_neg h1]
  by_cases h2 : i < 0
  · rw [if_pos h2]; exact good_no (by omega)
  rw [if_neg h2]
  by_cases h3 : i > 255
  · rw [if_pos h3]; exact good_no (by omega)
  rw [if_neg h3]
  by_cases h4 : b < 1
  · rw [if_pos h4]; exact good_no (by omega)
  rw [if_neg h4]
  by_cases h5 : b > 250
  · rw [if_pos h5]; exact good_no (by omega)
  rw [if_neg h5]
  by_cases h6 : c < 0
  · rw [if_pos h6]; exact good_no (by omega)
  rw [if_neg h6]
  by_cases h7 : c > 8
  · rw [if_pos h7]; exact good_no (by omega)
  rw [if_neg h7]
  by_cases h8 : e < 0
  · rw [if_pos h8]; exact good_no (by omega)
  rw [if_neg h8]
  by_cases h9 : e ≥ 3
  · rw [if_pos h9]; exact good_no (by omega)
  rw [if_neg h9]
  by_cases h10 : q < 0
  · rw [if_pos h10]; exact good_no (by omega)
  rw [if_neg h10]
  by_cases h11 : q > 1099511627776
  · rw [if_pos h11]; exact good_no (by omega)
  rw [if_neg h11]
  by_cases hc : c = 5
  · rw [if_pos hc]
    by_cases h1 : l ≥ 1
    · rw [if_pos h1]
      unfold Dr.goodD
      congr 1
      rw [decide_eq_decide]
      omega
    · rw [if_neg h1]; exact good_no (by omega)
  · rw [if_neg hc]
    unfold Dr.goodD
    congr 1
    rw [Bool.eq_iff_iff, beq_iff_eq, decide_eq_true_iff]
    omega
theorem may_ev (a i : Int) (p : Bool) (b c e : Int) (t : Bool) (l q : Int) : Ev (fun k => gimbalref9_May.f k a i p b c e t l q) (Dr.goodD a i b c e l q) :=
  ⟨2, fun k hk => by
    obtain ⟨m, rfl⟩ : ∃ m, k = m + 2 := ⟨k - 2, by omega⟩
    exact may_good a i p b c e t l q m⟩
theorem wakes_ev : Ev (fun k => gimballaw9_wakes.f k) true := Ev.of (gimballaw9_wakes.mono) (k := 10) (by decide +kernel)
theorem eqTx_same (a b d : Int) (l : List Int) (hl : l.length ≤ 5) : Ev (fun k => gimbalref0_EqTx.f k a b l d a b l d) true := by
  refine Ev.congr (f := fun k => (gimbalref0_EqBytes.f k l l).bind fun t155 => (if t155 = true then (some (d == d)) else (some false))) (fun k => ?_) ?_
  · simp only [gimbalref0_EqTx.f, if_true]
  · refine Ev.bind (eqBytes_same l l (by omega) rfl) ?_
    simp only [if_true, beq_self_eq_true]
    exact Ev.now _
theorem fin3 (l : List S29) (i : Int) (hnext : Ev (fun k => gimballaw9_DrvNexts.l0 k l (wrap64 (i + 1))) true) (th no : Bool) (h : (th == no) = false) (r1 r2 r4 : Int) (r3 : List Int) (hr : r3.length ≤ 5) : Ev (fun k => gimballaw9_DrvNexts.j3 k l i th 0 no r1 r2 r3 r4 r1 r2 r3 r4) true := by
  refine Ev.step (f := fun k => (gimbalref0_EqTx.f k r1 r2 r3 r4 r1 r2 r3 r4).bind fun t224 => (if t224 = true then (gimballaw9_DrvNexts.l0 k l (wrap64 (i + 1))) else (some false))) (fun k => ?_) ?_
  · simp only [gimballaw9_DrvNexts.j3, gimballaw9_num.f, Option.bind_some, if_true, h]
    rw [if_neg (by simp)]
  · refine Ev.bind (eqTx_same r1 r2 r4 r3 hr) ?_
    simp only [if_true]
    exact hnext
theorem fin2 (l : List S29) (i : Int) (hnext : Ev (fun k => gimballaw9_DrvNexts.l0 k l (wrap64 (i + 1))) true) (th : Bool) (a b : Int) (p : Bool) (e c f : Int) (q : Bool) (u v : Int) (h : th = !(decide (c = 0) || decide (c = 8))) (r1 r2 r4 : Int) (r3 : List Int) (hr : r3.length ≤ 5) :
    Ev (fun k => gimballaw9_DrvNexts.j2 k l i th 0 a b p e c f q u v r1 r2 r3 r4 r1 r2 r3 r4) true := by
  by_cases h0 : c = 0
  · refine Ev.step (fun k => ?_) (fin3 l i hnext th true (by rw [h, h0]; rfl) r1 r2 r4 r3 hr)
    simp only [gimballaw9_DrvNexts.j2]
    rw [if_pos h0]
  · refine Ev.step (fun k => ?_) (fin3 l i hnext th (c == 8) (by
      rw [h]
      by_cases h8 : c = 8
      · rw [h8]; rfl
      · simp [h0, h8]) r1 r2 r4 r3 hr)
    simp only [gimballaw9_DrvNexts.j2]
    rw [if_neg h0]
theorem main_loop (l : List S29) (_hl : l.length ≤ 9223372036854775807) (d : Nat) : ∀ i : Nat, i + d = l.length → Ev (fun k => gimballaw9_DrvNexts.l0 k l (i : Int)) true := by
  induction d with
  | zero =>
    intro i hi
    refine Ev.step (f := fun k => gimballaw9_DrvNexts.j1 k l i false) (fun k => ?_) (Ev.step (f := fun k => gimballaw9_wakes.f k) (fun k => ?_) wakes_ev)
    · simp only [gimballaw9_DrvNexts.l0]
      rw [if_neg (by omega)]
    · simp only [gimballaw9_DrvNexts.j1]
      rw [if_neg (by simp)]
      cases gimballaw9_wakes.f k <;> rfl
  | succ d ih =>
    intro i hi
    refine Ev.step (f := fun k => gimballaw9_DrvNexts.j1 k l i (decide ((i : Int) < 30))) (fun k => ?_) ?_
    · simp only [gimballaw9_DrvNexts.l0]
      rw [if_pos (by omega)]
    by_cases h20 : (i : Int) < 30
    · obtain ⟨x, hx⟩ : ∃ x, x = rd_T29 l i := ⟨_, rfl⟩
      have hnext := ih (i + 1) (by omega)
      rw [← w64s i (by omega)] at hnext
      rw [decide_eq_true h20]
      by_cases hg : Dr.goodD x.f0.f0 x.f0.f1 x.f0.f3 x.f0.f4 x.f0.f5 x.f0.f7 x.f0.f8 = true
      · have hc := Dr.goodD_iff hg
        have hcase : x.f0.f4 = 0 ∨ x.f0.f4 = 1 ∨ x.f0.f4 = 2 ∨ x.f0.f4 = 3 ∨ x.f0.f4 = 4 ∨ x.f0.f4 = 5 ∨ x.f0.f4 = 6 ∨ x.f0.f4 = 7 ∨ x.f0.f4 = 8 := by omega
        have h5 : x.f0.f4 = 5 → wrap64 (8 * x.f0.f7) = 8 * x.f0.f7 := fun h => by
          have := hc.2.2.2.2.2.2.2.2.2.2.2.2.1 h
          exact w64 (by omega) (by omega)
        have hm := may_ev x.f0.f0 x.f0.f1 x.f0.f2 x.f0.f3 x.f0.f4 x.f0.f5 x.f0.f6 x.f0.f7 x.f0.f8
        rw [hg] at hm
        obtain ⟨K1, h1⟩ := hm
        dsimp only at h1
        rcases hcase with h | h | h | h | h | h | h | h | h
        · obtain ⟨K2, h2⟩ := fin2 l i hnext false x.f0.f0 x.f0.f1 x.f0.f2 x.f0.f3 x.f0.f4 x.f0.f5 x.f0.f6 x.f0.f7 x.f0.f8 (by rw [h]; rfl) 0 0 0 [] (by simp)
          have hN : drv_Next.f x.f0.f0 x.f0.f1 x.f0.f2 x.f0.f3 x.f0.f4 x.f0.f5 x.f0.f6 x.f0.f7 x.f0.f8 = some (0, 0, [], 0, false, 0) := by
            unfold drv_Next.f
            rw [if_pos hg, if_neg (by omega), if_neg (by omega), if_neg (by omega), if_neg (by omega), if_neg (by omega), if_neg (by omega), if_neg (by omega)]
          refine ⟨K1 + K2 + 1, fun k hk => ?_⟩
          obtain ⟨m, rfl⟩ : ∃ m, k = m + 1 := ⟨k - 1, by omega⟩
          simp only [gimballaw9_DrvNexts.j1]
          rw [if_pos trivial, if_pos (by omega), if_pos (by omega), ← hx, hN, Option.bind_some, h1 m (by omega), Option.bind_some, if_pos rfl, if_neg (by omega), if_neg (by omega), if_neg (by omega), if_neg (by omega), if_neg (by omega), if_neg (by omega), if_neg (by omega)]
          exact h2 m (by omega)
        · obtain ⟨K2, h2⟩ := fin2 l i hnext true x.f0.f0 x.f0.f1 x.f0.f2 x.f0.f3 x.f0.f4 x.f0.f5 x.f0.f6 x.f0.f7 x.f0.f8 (by rw [h]; rfl) x.f0.f0 0 1 [] (by simp)
          have hN : drv_Next.f x.f0.f0 x.f0.f1 x.f0.f2 x.f0.f3 x.f0.f4 x.f0.f5 x.f0.f6 x.f0.f7 x.f0.f8 = some (x.f0.f0, 0, [], 1, true, 0) := by
            unfold drv_Next.f
            rw [if_pos hg, if_pos h]
          refine ⟨K1 + K2 + 1, fun k hk => ?_⟩
          obtain ⟨m, rfl⟩ : ∃ m, k = m + 1 := ⟨k - 1, by omega⟩
          simp only [gimballaw9_DrvNexts.j1]
          rw [if_pos trivial, if_pos (by omega), if_pos (by omega), ← hx, hN, Option.bind_some, h1 m (by omega), Option.bind_some, if_pos rfl, if_pos h]
          exact h2 m (by omega)
        · obtain ⟨K2, h2⟩ := fin2 l i hnext true x.f0.f0 x.f0.f1 x.f0.f2 x.f0.f3 x.f0.f4 x.f0.f5 x.f0.f6 x.f0.f7 x.f0.f8 (by rw [h]; rfl) x.f0.f0 2 0 [x.f0.f3 % 256] (by simp)
          have hN : drv_Next.f x.f0.f0 x.f0.f1 x.f0.f2 x.f0.f3 x.f0.f4 x.f0.f5 x.f0.f6 x.f0.f7 x.f0.f8 = some (x.f0.f0, 2, [x.f0.f3 % 256], 0, true, 0) := by
            unfold drv_Next.f
            rw [if_pos hg, if_neg (by omega), if_pos h]
          refine ⟨K1 + K2 + 1, fun k hk => ?_⟩
          obtain ⟨m, rfl⟩ : ∃ m, k = m + 1 := ⟨k - 1, by omega⟩
          simp only [gimballaw9_DrvNexts.j1]
          rw [if_pos trivial, if_pos (by omega), if_pos (by omega), ← hx, hN, Option.bind_some, h1 m (by omega), Option.bind_some, if_pos rfl, if_neg (by omega), if_pos h]
          exact h2 m (by omega)
        · obtain ⟨K2, h2⟩ := fin2 l i hnext true x.f0.f0 x.f0.f1 x.f0.f2 x.f0.f3 x.f0.f4 x.f0.f5 x.f0.f6 x.f0.f7 x.f0.f8 (by rw [h]; rfl) x.f0.f0 1 0 [1] (by simp)
          have hN : drv_Next.f x.f0.f0 x.f0.f1 x.f0.f2 x.f0.f3 x.f0.f4 x.f0.f5 x.f0.f6 x.f0.f7 x.f0.f8 = some (x.f0.f0, 1, [1], 0, true, 0) := by
            unfold drv_Next.f
            rw [if_pos hg, if_neg (by omega), if_neg (by omega), if_pos h]
          refine ⟨K1 + K2 + 1, fun k hk => ?_⟩
          obtain ⟨m, rfl⟩ : ∃ m, k = m + 1 := ⟨k - 1, by omega⟩
          simp only [gimballaw9_DrvNexts.j1]
          rw [if_pos trivial, if_pos (by omega), if_pos (by omega), ← hx, hN, Option.bind_some, h1 m (by omega), Option.bind_some, if_pos rfl, if_neg (by omega), if_neg (by omega), if_pos h]
          exact h2 m (by omega)
        · obtain ⟨K2, h2⟩ := fin2 l i hnext true x.f0.f0 x.f0.f1 x.f0.f2 x.f0.f3 x.f0.f4 x.f0.f5 x.f0.f6 x.f0.f7 x.f0.f8 (by rw [h]; rfl) x.f0.f0 3 1 [] (by simp)
          have hN : drv_Next.f x.f0.f0 x.f0.f1 x.f0.f2 x.f0.f3 x.f0.f4 x.f0.f5 x.f0.f6 x.f0.f7 x.f0.f8 = some (x.f0.f0, 3, [], 1, true, 0) := by
            unfold drv_Next.f
            rw [if_pos hg, if_neg (by omega), if_neg (by omega), if_neg (by omega), if_pos h]
          refine ⟨K1 + K2 + 1, fun k hk => ?_⟩
          obtain ⟨m, rfl⟩ : ∃ m, k = m + 1 := ⟨k - 1, by omega⟩
          simp only [gimballaw9_DrvNexts.j1]
          rw [if_pos trivial, if_pos (by omega), if_pos (by omega), ← hx, hN, Option.bind_some, h1 m (by omega), Option.bind_some, if_pos rfl, if_neg (by omega), if_neg (by omega), if_neg (by omega), if_pos h]
          exact h2 m (by omega)
        · obtain ⟨K2, h2⟩ := fin2 l i hnext true x.f0.f0 x.f0.f1 x.f0.f2 x.f0.f3 x.f0.f4 x.f0.f5 x.f0.f6 x.f0.f7 x.f0.f8 (by rw [h]; rfl) x.f0.f0 4 (8 * x.f0.f7) [] (by simp)
          have hN : drv_Next.f x.f0.f0 x.f0.f1 x.f0.f2 x.f0.f3 x.f0.f4 x.f0.f5 x.f0.f6 x.f0.f7 x.f0.f8 = some (x.f0.f0, 4, [], (8 * x.f0.f7), true, 0) := by
            unfold drv_Next.f
            rw [if_pos hg, if_neg (by omega), if_neg (by omega), if_neg (by omega), if_neg (by omega), if_pos h]
          refine ⟨K1 + K2 + 1, fun k hk => ?_⟩
          obtain ⟨m, rfl⟩ : ∃ m, k = m + 1 := ⟨k - 1, by omega⟩
          simp only [gimballaw9_DrvNexts.j1]
          rw [if_pos trivial, if_pos (by omega), if_pos (by omega), ← hx, hN, Option.bind_some, h1 m (by omega), Option.bind_some, if_pos rfl, if_neg (by omega), if_neg (by omega), if_neg (by omega), if_neg (by omega), if_pos h, h5 h]
          exact h2 m (by omega)
        · obtain ⟨K2, h2⟩ := fin2 l i hnext true x.f0.f0 x.f0.f1 x.f0.f2 x.f0.f3 x.f0.f4 x.f0.f5 x.f0.f6 x.f0.f7 x.f0.f8 (by rw [h]; rfl) x.f0.f0 1 0 [0] (by simp)
          have hN : drv_Next.f x.f0.f0 x.f0.f1 x.f0.f2 x.f0.f3 x.f0.f4 x.f0.f5 x.f0.f6 x.f0.f7 x.f0.f8 = some (x.f0.f0, 1, [0], 0, true, 0) := by
            unfold drv_Next.f
            rw [if_pos hg, if_neg (by omega), if_neg (by omega), if_neg (by omega), if_neg (by omega), if_neg (by omega), if_pos h]
          refine ⟨K1 + K2 + 1, fun k hk => ?_⟩
          obtain ⟨m, rfl⟩ : ∃ m, k = m + 1 := ⟨k - 1, by omega⟩
          simp only [gimballaw9_DrvNexts.j1]
          rw [if_pos trivial, if_pos (by omega), if_pos (by omega), ← hx, hN, Option.bind_some, h1 m (by omega), Option.bind_some, if_pos rfl, if_neg (by omega), if_neg (by omega), if_neg (by omega), if_neg (by omega), if_neg (by omega), if_pos h]
          exact h2 m (by omega)
        · obtain ⟨K2, h2⟩ := fin2 l i hnext true x.f0.f0 x.f0.f1 x.f0.f2 x.f0.f3 x.f0.f4 x.f0.f5 x.f0.f6 x.f0.f7 x.f0.f8 (by rw [h]; rfl) x.f0.f0 5 0 [182] (by simp)
          have hN : drv_Next.f x.f0.f0 x.f0.f1 x.f0.f2 x.f0.f3 x.f0.f4 x.f0.f5 x.f0.f6 x.f0.f7 x.f0.f8 = some (x.f0.f0, 5, [182], 0, true, 0) := by
            unfold drv_Next.f
            rw [if_pos hg, if_neg (by omega), if_neg (by omega), if_neg (by omega), if_neg (by omega), if_neg (by omega), if_neg (by omega), if_pos h]
          refine ⟨K1 + K2 + 1, fun k hk => ?_⟩
          obtain ⟨m, rfl⟩ : ∃ m, k = m + 1 := ⟨k - 1, by omega⟩
          simp only [gimballaw9_DrvNexts.j1]
          rw [if_pos trivial, if_pos (by omega), if_pos (by omega), ← hx, hN, Option.bind_some, h1 m (by omega), Option.bind_some, if_pos rfl, if_neg (by omega), if_neg (by omega), if_neg (by omega), if_neg (by omega), if_neg (by omega), if_neg (by omega), if_pos h]
          exact h2 m (by omega)
        · obtain ⟨K2, h2⟩ := fin2 l i hnext false x.f0.f0 x.f0.f1 x.f0.f2 x.f0.f3 x.f0.f4 x.f0.f5 x.f0.f6 x.f0.f7 x.f0.f8 (by rw [h]; rfl) 0 0 0 [] (by simp)
          have hN : drv_Next.f x.f0.f0 x.f0.f1 x.f0.f2 x.f0.f3 x.f0.f4 x.f0.f5 x.f0.f6 x.f0.f7 x.f0.f8 = some (0, 0, [], 0, false, 0) := by
            unfold drv_Next.f
            rw [if_pos hg, if_neg (by omega), if_neg (by omega), if_neg (by omega), if_neg (by omega), if_neg (by omega), if_neg (by omega), if_neg (by omega)]
          refine ⟨K1 + K2 + 1, fun k hk => ?_⟩
          obtain ⟨m, rfl⟩ : ∃ m, k = m + 1 := ⟨k - 1, by omega⟩
          simp only [gimballaw9_DrvNexts.j1]
          rw [if_pos trivial, if_pos (by omega), if_pos (by omega), ← hx, hN, Option.bind_some, h1 m (by omega), Option.bind_some, if_pos rfl, if_neg (by omega), if_neg (by omega), if_neg (by omega), if_neg (by omega), if_neg (by omega), if_neg (by omega), if_neg (by omega)]
          exact h2 m (by omega)
      · have hm := may_ev x.f0.f0 x.f0.f1 x.f0.f2 x.f0.f3 x.f0.f4 x.f0.f5 x.f0.f6 x.f0.f7 x.f0.f8
        rw [Bool.eq_false_iff.2 hg] at hm
        have hN : drv_Next.f x.f0.f0 x.f0.f1 x.f0.f2 x.f0.f3 x.f0.f4 x.f0.f5 x.f0.f6 x.f0.f7 x.f0.f8 = some (0, 0, [], 0, false, 1) := by
          unfold drv_Next.f
          rw [if_neg hg]
        obtain ⟨K1, h1⟩ := hm
        dsimp only at h1
        obtain ⟨K2, h2⟩ := eqTx_same 0 0 0 [] (by simp)
        obtain ⟨K3, h3⟩ := hnext
        dsimp only at h2 h3
        refine ⟨K1 + K2 + K3 + 1, fun k hk => ?_⟩
        obtain ⟨m, rfl⟩ : ∃ m, k = m + 1 := ⟨k - 1, by omega⟩
        simp only [gimballaw9_DrvNexts.j1]
        rw [if_pos trivial, if_pos (by omega), if_pos (by omega), ← hx, hN, Option.bind_some, h1 m (by omega), Option.bind_some, if_neg (by simp)]
        simp only [gimballaw9_num.f, Option.bind_some]
        rw [if_pos trivial, if_neg (by simp), h2 m (by omega), Option.bind_some, if_pos rfl]
        exact h3 m (by omega)
    · refine Ev.step (f := fun k => gimballaw9_wakes.f k) (fun k => ?_) wakes_ev
      simp only [gimballaw9_DrvNexts.j1]
      rw [if_neg (by simpa using h20)]
      cases gimballaw9_wakes.f k <;> rfl
theorem DrvNexts : gimballaw9_DrvNexts.Pure := by
  intro l ⟨hl, _⟩
  exact (main_loop l (by unfold maxLen at hl; omega) l.length 0 (by omega)).rounds
end Go.Proofs.Ytnlmbejkemkkoaa.Pure
