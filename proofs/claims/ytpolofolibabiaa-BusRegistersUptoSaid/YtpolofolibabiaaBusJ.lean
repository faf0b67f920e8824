/-
  Package bus: a device's tick.
  No conditions.
-/
import Derived.Test.YtpolofolibabiaaBusI
namespace Go.Proofs.Ytpolofolibabiaa.Bs
open Go Go.RowKit Go.Lib Go.Proofs.YtpolofolibabiaaW.PrintWords Go.Proofs.YtpolofolibabiaaW.PrintLast Go.Proofs.YtpolofolibabiaaW.PrintMore
set_option linter.unusedVariables false
set_option linter.unusedSimpArgs false
theorem DevQ.put {w : World} {p : Pl} {lv : Value} {x : Dv} (h : DevQ w p lv x) (i : Nat) (v : Value) (y : Dv) (hy : (x.cells lv p.g).setIfInBounds i v = y.cells lv p.g) (hq : y.q = x.q) (hl : y.list = x.list) : DevQ (w.setCell ⟨p.d, i, none⟩ v) p lv y ∧ Fr (FS p) w (w.setCell ⟨p.d, i, none⟩ v) := by
  have hf : Fr (FS p) w (w.setCell ⟨p.d, i, none⟩ v) := Fr.put1 _ _ (.inl rfl)
  have hf' : Fr (fun k => k = p.d) w (w.setCell ⟨p.d, i, none⟩ v) := Fr.put1 _ _ rfl
  have hn := h.d_ne
  refine ⟨h.turn hf ?_ ?_ hl, hf⟩
  · rw [put_at h.head i v, hy]
  · rw [hq]
    exact h.ring.fr hf' (fun e => hn (.inl e.symm)) (fun e => hn (.inr (.inl e.symm))) (fun e => hn (.inr (.inr e.symm)))
theorem RingQ.drew {w : World} {g b c : Nat} {q : List Rw} (h : RingQ w g b c q) : RingQ w.drew g b c q := h.drewN 1
structure Dv.Ok (x : Dv) : Prop where
  c0 : 0 ≤ x.cnt
  c1 : x.cnt ≤ 256
  p0 : 0 ≤ x.per
  p1 : x.per ≤ 256
  len : x.list.length ≤ 4096
  next : x.list.length ≠ 0 → x.next < x.list.length
theorem LstP.slice {w : World} {lv : Value} {l : List Rw} (h : LstP w lv l) : ∃ A cap, lv = .slice A l.length cap ∧ l.length ≤ cap ∧ ∀ j, j < l.length → ∃ m, A = some ⟨m, 0, none⟩ ∧ ∀ k u, (enc l[j]!)[k]? = some u → w.cell? ⟨m, j * 4 + k, none⟩ = some u := by
  rcases h with ⟨rfl, rfl⟩ | ⟨m, cap, cs, rfl, hc, hm, hl⟩
  · exact ⟨none, 0, rfl, Nat.le_refl _, fun j hj => absurd hj (Nat.not_lt_zero j)⟩
  · exact ⟨_, cap, rfl, hc, fun j hj => ⟨m, rfl, fun k u hu => (blk_cell hm (j * 4 + k)).trans (hl j hj k u hu)⟩⟩
def Dv.tick (x : Dv) : Dv :=
  if x.on = false then x else
  if x.cnt + 1 < x.per then { x with cnt := x.cnt + 1 } else
  if x.list.length = 0 then { x with cnt := 0 } else
  if x.q.length < 16 then { x with cnt := 0, q := x.q ++ [x.list[x.next]!], next := (x.next + 1) % x.list.length } else
  { x with cnt := 0, lost := wrap64 (x.lost + 1), next := (x.next + 1) % x.list.length }
set_option maxHeartbeats 4000000 in
set_option maxRecDepth 100000 in
theorem tick_ (w : World) (p : Pl) (lv : Value) (x : Dv) (h : DevQ w p lv x) (hk : x.Ok) : Calls Try.prog 36 #[.pointer (some ⟨p.d, 0, none⟩)] w fun e w' => e = .returned (.tuple #[]) ∧ DevQ w' p lv x.tick ∧ Fr (FS p) w w' := by
  obtain ⟨z0, z1, z2, z3, z4, z5, z6, z7, z8, z9, z10⟩ := h.at
  have f9 := h.fz 9
  obtain ⟨A, cap, hlv, hcap, hel⟩ := h.list.slice
  have hw1 : IntKind.i64.wrap (x.cnt + 1) = x.cnt + 1 := by have := hk.c0; have := hk.c1; rw [IntKind.wrap_i64]; omega
  have hw2 : wrap64 (x.cnt + 1) = x.cnt + 1 := by have := hk.c0; have := hk.c1; unfold wrap64; omega
  subst hlv
  cases ho : x.on with
  | false =>
    rw [ho] at z4
    have H := Aside0.mk h
    have HO := Aside0.mk ho
    clear h ho hel
    go_enter Try.func36, Try.ntmps36
    go_wp2
    refine bodyPost_ret (v := .tuple #[]) (results_none rfl _ _ _) rfl ?_
    refine ⟨rfl, ?_, Fr.refl _ _⟩
    rw [show x.tick = x by simp [Dv.tick, HO.out]]
    exact H.out
  | true =>
    rw [ho] at z4
    have h1 := h.put 9 (.int .i64 (x.cnt + 1)) { x with cnt := x.cnt + 1 } (by simp [Dv.cells]) rfl rfl
    by_cases hc : x.cnt + 1 < x.per
    · have H1 := Aside0.mk h1
      have hd : decide (x.cnt + 1 < x.per) = true := decide_eq_true hc
      have HT := Aside0.mk (show x.tick = { x with cnt := x.cnt + 1 } by simp [Dv.tick, ho, hc])
      clear h h1 ho hel hk
      go_enter Try.func36, Try.ntmps36
      go_upto_region 2 with fail
      go_quiet (fail)
      go_wp2
      refine bodyPost_ret (v := .tuple #[]) (results_none rfl _ _ _) rfl ?_
      rw [HT.out]
      exact ⟨rfl, H1.out.1.drewN _, H1.out.2.drewN _⟩
    · have hd : decide (x.cnt + 1 < x.per) = false := decide_eq_false hc
      have H1 := Aside0.mk h1
      have HX := Aside0.mk (show x.tick = (if x.list.length = 0 then { x with cnt := 0 } else
        if x.q.length < 16 then { x with cnt := 0, q := x.q ++ [x.list[x.next]!], next := (x.next + 1) % x.list.length } else { x with cnt := 0, lost := wrap64 (x.lost + 1), next := (x.next + 1) % x.list.length }) from by unfold Dv.tick; rw [if_neg (by rw [ho]; exact Bool.noConfusion), if_neg hc])
      have HK := Aside0.mk hk
      clear h h1 ho hel hc hk
      go_enter Try.func36, Try.ntmps36
      go_upto_region 2 with fail
      go_quiet (fail)
      go_upto_region 4 with fail
      obtain ⟨w3, hw3⟩ : ∃ w3, w3 = (((w.setCell ⟨p.d, 9, none⟩ (.int .i64 (x.cnt + 1))).drewN nq).setCell ⟨p.d, 9, none⟩ (.int .i64 0)) := ⟨_, rfl⟩
      rw [← hw3]
      have h3 := (H1.out.1.drewN nq).put 9 (.int .i64 0) { x with cnt := 0 } (by simp [Dv.cells]) rfl rfl
      have hd3 : DevQ w3 p (.slice A x.list.length cap) { x with cnt := 0 } := hw3 ▸ h3.1
      have hf3 : Fr (FS p) w w3 := hw3 ▸ ((H1.out.2.drewN nq).trans h3.2)
      clear h3 hw3 H1 z0 z1 z2 z3 z4 z5 z6 z7 z8 z9 z10 f9
      obtain ⟨y, hy⟩ : ∃ y, y = { x with cnt := 0 } := ⟨_, rfl⟩
      have hyl : y.list = x.list := by rw [hy]
      have hyq : y.q = x.q := by rw [hy]
      have hyn : y.next = x.next := by rw [hy]
      have hyo : y.lost = x.lost := by rw [hy]
      rw [← hy] at hd3
      obtain ⟨z0, z1, z2, z3, z4, z5, z6, z7, z8, z9, z10⟩ := hd3.at
      by_cases hl0 : x.list.length = 0
      · have HT := Aside0.mk (show x.tick = y by rw [HX.out, if_pos hl0, hy])
        have HD := Aside0.mk hd3
        have HF := Aside0.mk hf3
        clear hd3 hf3 hy hyl hyq hyn hyo
        go_wp2
        refine bodyPost_ret (v := .tuple #[]) (results_none rfl _ _ _) rfl ?_
        rw [HT.out]
        exact ⟨rfl, HD.out, HF.out⟩
      · obtain ⟨n, hn⟩ : ∃ n, n = x.list.length := ⟨_, rfl⟩
        have hnx : x.next < n := by rw [hn]; exact HK.out.next hl0
        have hn4 : n ≤ 4096 := by rw [hn]; exact HK.out.len
        obtain ⟨A2, cap2, hlv, hcap2, hel⟩ := hd3.list.slice
        rw [hyl, ← hn] at hel
        rw [← hn] at z2 hcap hl0 hlv
        rw [hyn] at z8
        simp only [Value.slice.injEq] at hlv
        obtain ⟨rfl, -, rfl⟩ := hlv
        clear hcap2
        obtain ⟨m, rfl, hm⟩ := hel x.next hnx
        have HLQ := Aside0.mk (show ∀ W, RingQ W p.g p.b p.c x.q → Calls Try.prog 35 #[.pointer (some ⟨p.g, 0, none⟩)] W fun e w' => e = .returned (.int .i64 (x.q.length : Int)) ∧ Drawn0 W w' from fun W h => lenQ _ _ _ _ _ h)
        have hni : (n : Int) ≠ 0 := by omega
        have hni' : ((n : Int) == 0) = false := by simp; omega
        have hm1 : IntKind.i64.wrap ((x.next : Int) + 1) = ((x.next + 1 : Nat) : Int) := by rw [IntKind.wrap_i64]; omega
        have hm2 : Int.tmod ((x.next + 1 : Nat) : Int) (n : Int) = (((x.next + 1) % n : Nat) : Int) := by rw [Int.tmod_eq_emod_of_nonneg (by omega)]; omega
        have hm3 : IntKind.i64.wrap ((((x.next + 1) % n : Nat) : Int)) = (((x.next + 1) % n : Nat) : Int) := by
          have := Nat.mod_lt (x.next + 1) (show 0 < n by omega)
          rw [IntKind.wrap_i64]
          omega
        have hq16 := hd3.ring.le
        rw [hyq] at hq16
        have hrg := hd3.ring
        rw [hyq] at hrg
        have HRG := Aside0.mk hrg
        have HD := Aside0.mk hd3
        have HF := Aside0.mk hf3
        have HY := Aside0.mk (And.intro hy (And.intro hyl (And.intro hyq (And.intro hyn hyo))))
        have HN := Aside0.mk hn
        clear hd3 hf3 hy hyl hyq hyn hyo hel hrg hn
        go_upto_region 5 with fail
        by_cases hq : x.q.length < 16
        · have hqd : decide ((x.q.length : Int) < 16) = true := decide_eq_true (by omega)
          obtain ⟨q0, q1, q2, q3, hqq⟩ : ∃ q0 q1 q2 q3, x.list[x.next]! = ⟨q0, q1, q2, q3⟩ := ⟨_, _, _, _, rfl⟩
          rw [hqq] at hm
          have r0 : w3.cell? ⟨m, x.next * 4, none⟩ = some (.int .i64 q0) := hm 0 _ rfl
          have r1 : w3.cell? ⟨m, x.next * 4 + 1, none⟩ = some (.int .i64 q1) := hm 1 _ rfl
          have r2 : w3.cell? ⟨m, x.next * 4 + 2, none⟩ = some (.int .i64 q2) := hm 2 _ rfl
          have r3 : w3.cell? ⟨m, x.next * 4 + 3, none⟩ = some (.int .i64 q3) := hm 3 _ rfl
          have hnn : (x.next : Int) < (n : Int) := by omega
          have HQ := Aside0.mk hqq
          have HPU := Aside0.mk (show ∀ W, RingQ W p.g p.b p.c x.q → Calls Try.prog 50 #[.pointer (some ⟨p.g, 0, none⟩), .agg #[.int .i64 q0, .int .i64 q1, .int .i64 q2, .int .i64 q3]] W fun e w' => ∃ v, e = .returned v ∧ RingQ w' p.g p.b p.c (x.q ++ [⟨q0, q1, q2, q3⟩]) ∧ Fr (RS p.g p.b p.c) W w' from fun W h => pushQ _ _ _ _ _ h hq ⟨q0, q1, q2, q3⟩)
          clear hqq hm
          go_upto_region 6 with (go_at_call 35; with_reducible refine (HLQ.out _ HRG.out).mono ?_; rintro e w' ⟨rfl, np, rfl⟩)
          refine start_ (n := 17) (S := fun w' => w'.cell? ⟨p.d, 10, none⟩ = some (.pointer (some ⟨p.g, 0, none⟩)) ∧ w'.cell? ⟨p.d, 2, none⟩ = some (.slice (some ⟨m, 0, none⟩) n cap) ∧ w'.cell? ⟨p.d, 8, none⟩ = some (.int .i64 (x.next : Int)) ∧ w'.cell? ⟨m, x.next * 4, none⟩ = some (.int .i64 q0) ∧ w'.cell? ⟨m, x.next * 4 + 1, none⟩ = some (.int .i64 q1) ∧ w'.cell? ⟨m, x.next * 4 + 2, none⟩ = some (.int .i64 q2) ∧ w'.cell? ⟨m, x.next * 4 + 3, none⟩ = some (.int .i64 q3)) (ds := [16]) #[false, false, false, false, false, false, false, false, false, false, false, false, false, false, false, false, false] (by kernel_rfl) rfl rfl ⟨z10, z2, z8, r0, r1, r2, r3⟩ (fun hHeld => ?_)
          refine pure_ (i := 0) (N := some 41) (v := ?_) (a' := ?_) #[true, false, false, false, false, false, false, false, false, false, false, false, false, false, false, false, false] rfl rfl (by kernel_rfl) (fun _ _ _ h => h) (Or.inl ⟨by rfl, ?_⟩) ?_ ?_
          rotate_left
          · intro w'
            go_simp
            with_reducible rfl
          rotate_left
          · simp only [Act.put, List.setIfInBounds_toArray, List.set_cons_zero, List.set_cons_succ, i64_w, i32_w]
            rfl
          refine pure_ (i := 1) (N := some 42) (v := ?_) (a' := ?_) #[true, true, false, false, false, false, false, false, false, false, false, false, false, false, false, false, false] rfl rfl (by kernel_rfl) (fun _ _ _ h => h) (Or.inl ⟨by rfl, ?_⟩) ?_ ?_
          rotate_left
          · intro w'
            go_simp
            with_reducible rfl
          rotate_left
          · simp only [Act.put, List.setIfInBounds_toArray, List.set_cons_zero, List.set_cons_succ, i64_w, i32_w]
            rfl
          refine pure_ (i := 2) (N := some 43) (v := ?_) (a' := ?_) #[true, true, true, false, false, false, false, false, false, false, false, false, false, false, false, false, false] rfl rfl (by kernel_rfl) (fun _ _ _ h => h) (Or.inl ⟨by rfl, ?_⟩) ?_ ?_
          rotate_left
          · intro w'
            go_simp
            with_reducible rfl
          rotate_left
          · simp only [Act.put, List.setIfInBounds_toArray, List.set_cons_zero, List.set_cons_succ, i64_w, i32_w]
            rfl
          refine pure_ (i := 4) (N := some 45) (v := ?_) (a' := ?_) #[true, true, true, false, true, false, false, false, false, false, false, false, false, false, false, false, false] rfl rfl (by kernel_rfl) (fun _ _ _ h => h) (Or.inl ⟨by rfl, ?_⟩) ?_ ?_
          rotate_left
          · intro w'
            go_simp
            with_reducible rfl
          rotate_left
          · simp only [Act.put, List.setIfInBounds_toArray, List.set_cons_zero, List.set_cons_succ, i64_w, i32_w]
            rfl
          refine pure_ (i := 5) (N := some 46) (v := ?_) (a' := ?_) #[true, true, true, false, true, true, false, false, false, false, false, false, false, false, false, false, false] rfl rfl (by kernel_rfl) (fun _ _ _ h => h) (Or.inl ⟨by rfl, ?_⟩) ?_ ?_
          rotate_left
          · intro w'
            go_simp
            with_reducible rfl
          rotate_left
          · simp only [Act.put, List.setIfInBounds_toArray, List.set_cons_zero, List.set_cons_succ, i64_w, i32_w]
            rfl
          refine pure_ (i := 6) (N := some 47) (v := ?_) (a' := ?_) #[true, true, true, false, true, true, true, false, false, false, false, false, false, false, false, false, false] rfl rfl (by kernel_rfl) (fun _ _ _ h => h) (Or.inl ⟨by rfl, ?_⟩) ?_ ?_
          rotate_left
          · intro w'
            go_simp
            with_reducible rfl
          rotate_left
          · simp only [Act.put, List.setIfInBounds_toArray, List.set_cons_zero, List.set_cons_succ, i64_w, i32_w]
            rfl
          refine pure_ (i := 7) (N := some 48) (v := ?_) (a' := ?_) #[true, true, true, false, true, true, true, true, false, false, false, false, false, false, false, false, false] rfl rfl (by kernel_rfl) (fun _ _ _ h => h) (Or.inl ⟨by rfl, ?_⟩) ?_ ?_
          rotate_left
          · intro w'
            go_simp
            with_reducible rfl
          rotate_left
          · simp only [Act.put, List.setIfInBounds_toArray, List.set_cons_zero, List.set_cons_succ, i64_w, i32_w]
            rfl
          refine pure_ (i := 9) (N := some 50) (v := ?_) (a' := ?_) #[true, true, true, false, true, true, true, true, false, true, false, false, false, false, false, false, false] rfl rfl (by kernel_rfl) (fun _ _ _ h => h) (Or.inl ⟨by rfl, ?_⟩) ?_ ?_
          rotate_left
          · intro w'
            go_simp
            with_reducible rfl
          rotate_left
          · simp only [Act.put, List.setIfInBounds_toArray, List.set_cons_zero, List.set_cons_succ, i64_w, i32_w]
            rfl
          refine pure_ (i := 10) (N := some 51) (v := ?_) (a' := ?_) #[true, true, true, false, true, true, true, true, false, true, true, false, false, false, false, false, false] rfl rfl (by kernel_rfl) (fun _ _ _ h => h) (Or.inl ⟨by rfl, ?_⟩) ?_ ?_
          rotate_left
          · intro w'
            go_simp
            with_reducible rfl
          rotate_left
          · simp only [Act.put, List.setIfInBounds_toArray, List.set_cons_zero, List.set_cons_succ, i64_w, i32_w]
            rfl
          refine pure_ (i := 11) (N := some 52) (v := ?_) (a' := ?_) #[true, true, true, false, true, true, true, true, false, true, true, true, false, false, false, false, false] rfl rfl (by kernel_rfl) (fun _ _ _ h => h) (Or.inl ⟨by rfl, ?_⟩) ?_ ?_
          rotate_left
          · intro w'
            go_simp
            with_reducible rfl
          rotate_left
          · simp only [Act.put, List.setIfInBounds_toArray, List.set_cons_zero, List.set_cons_succ, i64_w, i32_w]
            rfl
          refine pure_ (i := 12) (N := some 53) (v := ?_) (a' := ?_) #[true, true, true, false, true, true, true, true, false, true, true, true, true, false, false, false, false] rfl rfl (by kernel_rfl) (fun _ _ _ h => h) (Or.inl ⟨by rfl, ?_⟩) ?_ ?_
          rotate_left
          · intro w'
            go_simp
            with_reducible rfl
          rotate_left
          · simp only [Act.put, List.setIfInBounds_toArray, List.set_cons_zero, List.set_cons_succ, i64_w, i32_w]
            rfl
          refine take_ (i := 3) (N := some 44) (v := ?_) (a' := ?_) #[true, true, true, true, true, true, true, true, false, true, true, true, true, false, false, false, false] rfl rfl (by kernel_rfl) (fun _ _ _ h => h) (Or.inl ⟨by rfl, ?_⟩) hHeld ?_ ?_
          rotate_left
          · rintro w' ⟨s0, s1, s2, s3, s4, s5, s6⟩
            go_simp
            with_reducible rfl
          rotate_left
          · simp only [Act.put, List.setIfInBounds_toArray, List.set_cons_zero, List.set_cons_succ, i64_w, i32_w]
            rfl
          refine take_ (i := 8) (N := some 49) (v := ?_) (a' := ?_) #[true, true, true, true, true, true, true, true, true, true, true, true, true, false, false, false, false] rfl rfl (by kernel_rfl) (fun _ _ _ h => h) (Or.inl ⟨by rfl, ?_⟩) hHeld ?_ ?_
          rotate_left
          · rintro w' ⟨s0, s1, s2, s3, s4, s5, s6⟩
            go_simp
            with_reducible rfl
          rotate_left
          · simp only [Act.put, List.setIfInBounds_toArray, List.set_cons_zero, List.set_cons_succ, i64_w, i32_w]
            rfl
          refine take_ (i := 13) (N := some 54) (v := ?_) (a' := ?_) #[true, true, true, true, true, true, true, true, true, true, true, true, true, true, false, false, false] rfl rfl (by kernel_rfl) (fun _ _ _ h => h) (Or.inl ⟨by rfl, ?_⟩) hHeld ?_ ?_
          rotate_left
          · rintro w' ⟨s0, s1, s2, s3, s4, s5, s6⟩
            go_simp
            with_reducible rfl
          rotate_left
          · simp only [Act.put, List.setIfInBounds_toArray, List.set_cons_zero, List.set_cons_succ, i64_w, i32_w]
            rfl
          refine pure_ (i := 14) (N := some 55) (v := ?_) (a' := ?_) #[true, true, true, true, true, true, true, true, true, true, true, true, true, true, true, false, false] rfl rfl (by kernel_rfl) (fun _ _ _ h => h) (Or.inl ⟨by rfl, ?_⟩) ?_ ?_
          rotate_left
          · intro w'
            go_simp
            with_reducible rfl
          rotate_left
          · simp only [Act.put, List.setIfInBounds_toArray, List.set_cons_zero, List.set_cons_succ, i64_w, i32_w]
            rfl
          refine take_ (i := 15) (N := some 56) (v := ?_) (a' := ?_) #[true, true, true, true, true, true, true, true, true, true, true, true, true, true, true, true, false] rfl rfl (by kernel_rfl) (fun _ _ _ h => h) (Or.inl ⟨by rfl, ?_⟩) hHeld ?_ ?_
          rotate_left
          · rintro w' ⟨s0, s1, s2, s3, s4, s5, s6⟩
            go_simp
            with_reducible rfl
          rotate_left
          · simp only [Act.put, List.setIfInBounds_toArray, List.set_cons_zero, List.set_cons_succ, i64_w, i32_w]
            rfl
          refine last_ (i := 16) (N := some 57) #[true, true, true, true, true, true, true, true, true, true, true, true, true, true, true, true, true] rfl rfl (by kernel_rfl) (by decide) (fun K hK => ?_)
          refine goes_ Try.func50 (by kernel_rfl) rfl #[.pointer (some ⟨p.g, 0, none⟩), .agg #[.int .i64 q0, .int .i64 q1, .int .i64 q2, .int .i64 q3]] (by rfl) rfl rfl (by simp only [List.map_toArray, List.map_cons, List.map_nil]; rfl) ?_
          with_reducible refine (HPU.out _ (RingQ.drew (HRG.out.drewN np))).mono ?_
          rintro e w4 ⟨v4, rfl, hr4, hf4⟩
          refine ⟨_, rfl, ?_⟩
          have HR4 := Aside0.mk hr4
          have HF4 := Aside0.mk hf4
          clear hr4 hf4
          refine hK.out _ _ ?_
          clear hK K
          refine norm_ (a' := ?_) ?_ ?_
          rotate_left
          · show Act.put _ (some 57) _ = _
            simp only [Act.put, List.setIfInBounds_toArray, List.set_cons_zero, List.set_cons_succ, i64_w, i32_w]
            rfl
          refine done_ (by kernel_rfl) ?_

          have hfd : Fr (RS p.g p.b p.c) w3 w4 := Fr.trans (w1 := (w3.drewN np).drew) ((Fr.refl _ w3).drewN np |>.drewN 1) HF4.out
          have hd4 : DevQ w4 p (.slice (some ⟨m, 0, none⟩) n cap) { y with q := x.q ++ [⟨q0, q1, q2, q3⟩] } := by
            rw [HN.out]
            exact HD.out.turn (hfd.mono RS_FS) (hfd.blk HD.out.head HD.out.d_ne) HR4.out rfl
          have hf4 : Fr (FS p) w w4 := HF.out.trans (hfd.mono RS_FS)
          obtain ⟨y4, hy4⟩ : ∃ y4 : Dv, y4 = { y with q := x.q ++ [⟨q0, q1, q2, q3⟩] } := ⟨_, rfl⟩
          rw [← hy4] at hd4
          have hy4n : y4.next = x.next := by rw [hy4]; exact HY.out.2.2.2.1
          clear hfd HR4 HF4 HRG z0 z1 z2 z3 z4 z5 z6 z7 z8 z9 z10 r0 r1 r2 r3 hHeld
          obtain ⟨u0, u1, u2, u3, u4, u5, u6, u7, u8, u9, u10⟩ := hd4.at
          rw [hy4n] at u8
          have g8 := hd4.fz 8
          have HD4 := Aside0.mk hd4
          have HF4 := Aside0.mk hf4
          have HY4 := Aside0.mk hy4
          clear hd4 hf4 hy4 hy4n
          go_upto_region 8 with (fail)
          refine start_ (n := 18) (S := fun w' => w'.cell? ⟨p.d, 8, none⟩ = some (.int .i64 (x.next : Int)) ∧ w'.cell? ⟨p.d, 2, none⟩ = some (.slice (some ⟨m, 0, none⟩) n cap)) (ds := [17]) #[false, false, false, false, false, false, false, false, false, false, false, false, false, false, false, false, false, false] (by kernel_rfl) rfl rfl ⟨u8, u2⟩ (fun hHeld => ?_)
          refine pure_ (i := 0) (N := some 67) (v := ?_) (a' := ?_) #[true, false, false, false, false, false, false, false, false, false, false, false, false, false, false, false, false, false] rfl rfl (by kernel_rfl) (fun _ _ _ h => h) (Or.inl ⟨by rfl, ?_⟩) ?_ ?_
          rotate_left
          · intro w'
            go_simp
            with_reducible rfl
          rotate_left
          · simp only [Act.put, List.setIfInBounds_toArray, List.set_cons_zero, List.set_cons_succ, i64_w, i32_w]
            rfl
          refine pure_ (i := 1) (N := some 68) (v := ?_) (a' := ?_) #[true, true, false, false, false, false, false, false, false, false, false, false, false, false, false, false, false, false] rfl rfl (by kernel_rfl) (fun _ _ _ h => h) (Or.inl ⟨by rfl, ?_⟩) ?_ ?_
          rotate_left
          · intro w'
            go_simp
            with_reducible rfl
          rotate_left
          · simp only [Act.put, List.setIfInBounds_toArray, List.set_cons_zero, List.set_cons_succ, i64_w, i32_w]
            rfl
          refine pure_ (i := 2) (N := some 69) (v := ?_) (a' := ?_) #[true, true, true, false, false, false, false, false, false, false, false, false, false, false, false, false, false, false] rfl rfl (by kernel_rfl) (fun _ _ _ h => h) (Or.inl ⟨by rfl, ?_⟩) ?_ ?_
          rotate_left
          · intro w'
            go_simp
            with_reducible rfl
          rotate_left
          · simp only [Act.put, List.setIfInBounds_toArray, List.set_cons_zero, List.set_cons_succ, i64_w, i32_w]
            rfl
          refine pure_ (i := 3) (N := some 70) (v := ?_) (a' := ?_) #[true, true, true, true, false, false, false, false, false, false, false, false, false, false, false, false, false, false] rfl rfl (by kernel_rfl) (fun _ _ _ h => h) (Or.inl ⟨by rfl, ?_⟩) ?_ ?_
          rotate_left
          · intro w'
            go_simp
            with_reducible rfl
          rotate_left
          · simp only [Act.put, List.setIfInBounds_toArray, List.set_cons_zero, List.set_cons_succ, i64_w, i32_w]
            rfl
          refine pure_ (i := 4) (N := some 71) (v := ?_) (a' := ?_) #[true, true, true, true, true, false, false, false, false, false, false, false, false, false, false, false, false, false] rfl rfl (by kernel_rfl) (fun _ _ _ h => h) (Or.inl ⟨by rfl, ?_⟩) ?_ ?_
          rotate_left
          · intro w'
            go_simp
            with_reducible rfl
          rotate_left
          · simp only [Act.put, List.setIfInBounds_toArray, List.set_cons_zero, List.set_cons_succ, i64_w, i32_w]
            rfl
          refine pure_ (i := 7) (N := some 74) (v := ?_) (a' := ?_) #[true, true, true, true, true, false, false, true, false, false, false, false, false, false, false, false, false, false] rfl rfl (by kernel_rfl) (fun _ _ _ h => h) (Or.inl ⟨by rfl, ?_⟩) ?_ ?_
          rotate_left
          · intro w'
            go_simp
            with_reducible rfl
          rotate_left
          · simp only [Act.put, List.setIfInBounds_toArray, List.set_cons_zero, List.set_cons_succ, i64_w, i32_w]
            rfl
          refine pure_ (i := 8) (N := some 75) (v := ?_) (a' := ?_) #[true, true, true, true, true, false, false, true, true, false, false, false, false, false, false, false, false, false] rfl rfl (by kernel_rfl) (fun _ _ _ h => h) (Or.inl ⟨by rfl, ?_⟩) ?_ ?_
          rotate_left
          · intro w'
            go_simp
            with_reducible rfl
          rotate_left
          · simp only [Act.put, List.setIfInBounds_toArray, List.set_cons_zero, List.set_cons_succ, i64_w, i32_w]
            rfl
          refine pure_ (i := 9) (N := some 76) (v := ?_) (a' := ?_) #[true, true, true, true, true, false, false, true, true, true, false, false, false, false, false, false, false, false] rfl rfl (by kernel_rfl) (fun _ _ _ h => h) (Or.inl ⟨by rfl, ?_⟩) ?_ ?_
          rotate_left
          · intro w'
            go_simp
            with_reducible rfl
          rotate_left
          · simp only [Act.put, List.setIfInBounds_toArray, List.set_cons_zero, List.set_cons_succ, i64_w, i32_w]
            rfl
          refine pure_ (i := 10) (N := some 77) (v := ?_) (a' := ?_) #[true, true, true, true, true, false, false, true, true, true, true, false, false, false, false, false, false, false] rfl rfl (by kernel_rfl) (fun _ _ _ h => h) (Or.inl ⟨by rfl, ?_⟩) ?_ ?_
          rotate_left
          · intro w'
            go_simp
            with_reducible rfl
          rotate_left
          · simp only [Act.put, List.setIfInBounds_toArray, List.set_cons_zero, List.set_cons_succ, i64_w, i32_w]
            rfl
          refine take_ (i := 5) (N := some 72) (v := ?_) (a' := ?_) #[true, true, true, true, true, true, false, true, true, true, true, false, false, false, false, false, false, false] rfl rfl (by kernel_rfl) (fun _ _ _ h => h) (Or.inl ⟨by rfl, ?_⟩) hHeld ?_ ?_
          rotate_left
          · rintro w' ⟨s0, s1⟩
            go_simp
            with_reducible rfl
          rotate_left
          · simp only [Act.put, List.setIfInBounds_toArray, List.set_cons_zero, List.set_cons_succ, i64_w, i32_w]
            rfl
          refine pure_ (i := 6) (N := some 73) (v := ?_) (a' := ?_) #[true, true, true, true, true, true, true, true, true, true, true, false, false, false, false, false, false, false] rfl rfl (by kernel_rfl) (fun _ _ _ h => h) (Or.inl ⟨by rfl, ?_⟩) ?_ ?_
          rotate_left
          · intro w'
            go_simp
            with_reducible rfl
          rotate_left
          · simp only [Act.put, List.setIfInBounds_toArray, List.set_cons_zero, List.set_cons_succ, i64_w, i32_w]
            rfl
          refine take_ (i := 11) (N := some 78) (v := ?_) (a' := ?_) #[true, true, true, true, true, true, true, true, true, true, true, true, false, false, false, false, false, false] rfl rfl (by kernel_rfl) (fun _ _ _ h => h) (Or.inl ⟨by rfl, ?_⟩) hHeld ?_ ?_
          rotate_left
          · rintro w' ⟨s0, s1⟩
            go_simp
            with_reducible rfl
          rotate_left
          · simp only [Act.put, List.setIfInBounds_toArray, List.set_cons_zero, List.set_cons_succ, i64_w, i32_w]
            rfl
          refine pure_ (i := 12) (N := some 79) (v := ?_) (a' := ?_) #[true, true, true, true, true, true, true, true, true, true, true, true, true, false, false, false, false, false] rfl rfl (by kernel_rfl) (fun _ _ _ h => h) (Or.inl ⟨by rfl, ?_⟩) ?_ ?_
          rotate_left
          · intro w'
            go_simp
            with_reducible rfl
          rotate_left
          · simp only [Act.put, List.setIfInBounds_toArray, List.set_cons_zero, List.set_cons_succ, i64_w, i32_w]
            rfl
          refine pure_ (i := 13) (N := some 80) (v := ?_) (a' := ?_) #[true, true, true, true, true, true, true, true, true, true, true, true, true, true, false, false, false, false] rfl rfl (by kernel_rfl) (fun _ _ _ h => h) (Or.inl ⟨by rfl, ?_⟩) ?_ ?_
          rotate_left
          · intro w'
            go_simp
            with_reducible rfl
          rotate_left
          · simp only [Act.put, List.setIfInBounds_toArray, List.set_cons_zero, List.set_cons_succ, i64_w, i32_w]
            rfl
          refine pure_ (i := 14) (N := some 81) (v := ?_) (a' := ?_) #[true, true, true, true, true, true, true, true, true, true, true, true, true, true, true, false, false, false] rfl rfl (by kernel_rfl) (fun _ _ _ h => h) (Or.inl ⟨by rfl, ?_⟩) ?_ ?_
          rotate_left
          · intro w'
            go_simp
            with_reducible rfl
          rotate_left
          · simp only [Act.put, List.setIfInBounds_toArray, List.set_cons_zero, List.set_cons_succ, i64_w, i32_w]
            rfl
          refine pure_ (i := 15) (N := some 82) (v := ?_) (a' := ?_) #[true, true, true, true, true, true, true, true, true, true, true, true, true, true, true, true, false, false] rfl rfl (by kernel_rfl) (fun _ _ _ h => h) (Or.inl ⟨by rfl, ?_⟩) ?_ ?_
          rotate_left
          · intro w'
            go_simp
            with_reducible rfl
          rotate_left
          · simp only [Act.put, List.setIfInBounds_toArray, List.set_cons_zero, List.set_cons_succ, i64_w, i32_w]
            rfl
          refine pure_ (i := 16) (N := some 83) (v := ?_) (a' := ?_) #[true, true, true, true, true, true, true, true, true, true, true, true, true, true, true, true, true, false] rfl rfl (by kernel_rfl) (fun _ _ _ h => h) (Or.inl ⟨by rfl, ?_⟩) ?_ ?_
          rotate_left
          · intro w'
            go_simp
            with_reducible rfl
          rotate_left
          · simp only [Act.put, List.setIfInBounds_toArray, List.set_cons_zero, List.set_cons_succ, i64_w, i32_w]
            rfl
          refine last_ (i := 17) (N := none) #[true, true, true, true, true, true, true, true, true, true, true, true, true, true, true, true, true, true] rfl rfl (by kernel_rfl) (by decide) (fun K hK => ?_)
          refine skip_ (w1 := ?_) (by rfl) rfl ?_ ?_
          rotate_left
          · go_simp
            rfl
          refine hK.out _ _ ?_
          clear hK K
          refine done_ (by kernel_rfl) ?_

          go_wp2
          go_end0
          have h9 := HD4.out.put 8 (.int .i64 (((x.next + 1) % n : Nat) : Int)) { y4 with next := (x.next + 1) % n } (by simp [Dv.cells]) rfl rfl
          refine ⟨rfl, ?_, ?_⟩
          · have hT : x.tick = { y4 with next := (x.next + 1) % n } := by
              rw [HX.out, if_neg (by rw [← HN.out]; exact hl0), if_pos hq, HY4.out, HY.out.1, HQ.out, ← HN.out]
            rw [hT, ← HN.out]
            exact h9.1.drewN 1
          · exact (HF4.out.trans h9.2).drewN 1
        · have hqd : decide ((x.q.length : Int) < 16) = false := decide_eq_false (by omega)
          have f7 := HD.out.fz 7
          rw [HY.out.2.2.2.2] at z7
          go_upto_region 8 with (go_at_call 35; with_reducible refine (HLQ.out _ HRG.out).mono ?_; rintro e w' ⟨rfl, np, rfl⟩)
          obtain ⟨w4, hw4⟩ : ∃ w4, w4 = ((w3.drewN np).setCell ⟨p.d, 7, none⟩ (.int .i64 (wrap64 (x.lost + 1)))) := ⟨_, rfl⟩
          rw [← hw4]
          obtain ⟨y4, hy4⟩ : ∃ y4 : Dv, y4 = { y with lost := wrap64 (x.lost + 1) } := ⟨_, rfl⟩
          have h5 := (HD.out.drewN np).put 7 (.int .i64 (wrap64 (x.lost + 1))) y4 (by rw [hy4]; simp [Dv.cells]) (by rw [hy4]) (by rw [hy4])
          have hd4 : DevQ w4 p (.slice (some ⟨m, 0, none⟩) n cap) y4 := by rw [hw4, HN.out]; exact h5.1
          have hf4 : Fr (FS p) w w4 := by rw [hw4]; exact (HF.out.drewN np).trans h5.2
          have hy4n : y4.next = x.next := by rw [hy4]; exact HY.out.2.2.2.1
          clear h5 hw4 HRG z0 z1 z2 z3 z4 z5 z6 z7 z8 z9 z10 f7 hm
          obtain ⟨u0, u1, u2, u3, u4, u5, u6, u7, u8, u9, u10⟩ := hd4.at
          rw [hy4n] at u8
          have g8 := hd4.fz 8
          have HD4 := Aside0.mk hd4
          have HF4 := Aside0.mk hf4
          have HY4 := Aside0.mk hy4
          clear hd4 hf4 hy4 hy4n
          go_upto_region 8 with (fail)
          refine start_ (n := 18) (S := fun w' => w'.cell? ⟨p.d, 8, none⟩ = some (.int .i64 (x.next : Int)) ∧ w'.cell? ⟨p.d, 2, none⟩ = some (.slice (some ⟨m, 0, none⟩) n cap)) (ds := [17]) #[false, false, false, false, false, false, false, false, false, false, false, false, false, false, false, false, false, false] (by kernel_rfl) rfl rfl ⟨u8, u2⟩ (fun hHeld => ?_)
          refine pure_ (i := 0) (N := some 67) (v := ?_) (a' := ?_) #[true, false, false, false, false, false, false, false, false, false, false, false, false, false, false, false, false, false] rfl rfl (by kernel_rfl) (fun _ _ _ h => h) (Or.inl ⟨by rfl, ?_⟩) ?_ ?_
          rotate_left
          · intro w'
            go_simp
            with_reducible rfl
          rotate_left
          · simp only [Act.put, List.setIfInBounds_toArray, List.set_cons_zero, List.set_cons_succ, i64_w, i32_w]
            rfl
          refine pure_ (i := 1) (N := some 68) (v := ?_) (a' := ?_) #[true, true, false, false, false, false, false, false, false, false, false, false, false, false, false, false, false, false] rfl rfl (by kernel_rfl) (fun _ _ _ h => h) (Or.inl ⟨by rfl, ?_⟩) ?_ ?_
          rotate_left
          · intro w'
            go_simp
            with_reducible rfl
          rotate_left
          · simp only [Act.put, List.setIfInBounds_toArray, List.set_cons_zero, List.set_cons_succ, i64_w, i32_w]
            rfl
          refine pure_ (i := 2) (N := some 69) (v := ?_) (a' := ?_) #[true, true, true, false, false, false, false, false, false, false, false, false, false, false, false, false, false, false] rfl rfl (by kernel_rfl) (fun _ _ _ h => h) (Or.inl ⟨by rfl, ?_⟩) ?_ ?_
          rotate_left
          · intro w'
            go_simp
            with_reducible rfl
          rotate_left
          · simp only [Act.put, List.setIfInBounds_toArray, List.set_cons_zero, List.set_cons_succ, i64_w, i32_w]
            rfl
          refine pure_ (i := 3) (N := some 70) (v := ?_) (a' := ?_) #[true, true, true, true, false, false, false, false, false, false, false, false, false, false, false, false, false, false] rfl rfl (by kernel_rfl) (fun _ _ _ h => h) (Or.inl ⟨by rfl, ?_⟩) ?_ ?_
          rotate_left
          · intro w'
            go_simp
            with_reducible rfl
          rotate_left
          · simp only [Act.put, List.setIfInBounds_toArray, List.set_cons_zero, List.set_cons_succ, i64_w, i32_w]
            rfl
          refine pure_ (i := 4) (N := some 71) (v := ?_) (a' := ?_) #[true, true, true, true, true, false, false, false, false, false, false, false, false, false, false, false, false, false] rfl rfl (by kernel_rfl) (fun _ _ _ h => h) (Or.inl ⟨by rfl, ?_⟩) ?_ ?_
          rotate_left
          · intro w'
            go_simp
            with_reducible rfl
          rotate_left
          · simp only [Act.put, List.setIfInBounds_toArray, List.set_cons_zero, List.set_cons_succ, i64_w, i32_w]
            rfl
          refine pure_ (i := 7) (N := some 74) (v := ?_) (a' := ?_) #[true, true, true, true, true, false, false, true, false, false, false, false, false, false, false, false, false, false] rfl rfl (by kernel_rfl) (fun _ _ _ h => h) (Or.inl ⟨by rfl, ?_⟩) ?_ ?_
          rotate_left
          · intro w'
            go_simp
            with_reducible rfl
          rotate_left
          · simp only [Act.put, List.setIfInBounds_toArray, List.set_cons_zero, List.set_cons_succ, i64_w, i32_w]
            rfl
          refine pure_ (i := 8) (N := some 75) (v := ?_) (a' := ?_) #[true, true, true, true, true, false, false, true, true, false, false, false, false, false, false, false, false, false] rfl rfl (by kernel_rfl) (fun _ _ _ h => h) (Or.inl ⟨by rfl, ?_⟩) ?_ ?_
          rotate_left
          · intro w'
            go_simp
            with_reducible rfl
          rotate_left
          · simp only [Act.put, List.setIfInBounds_toArray, List.set_cons_zero, List.set_cons_succ, i64_w, i32_w]
            rfl
          refine pure_ (i := 9) (N := some 76) (v := ?_) (a' := ?_) #[true, true, true, true, true, false, false, true, true, true, false, false, false, false, false, false, false, false] rfl rfl (by kernel_rfl) (fun _ _ _ h => h) (Or.inl ⟨by rfl, ?_⟩) ?_ ?_
          rotate_left
          · intro w'
            go_simp
            with_reducible rfl
          rotate_left
          · simp only [Act.put, List.setIfInBounds_toArray, List.set_cons_zero, List.set_cons_succ, i64_w, i32_w]
            rfl
          refine pure_ (i := 10) (N := some 77) (v := ?_) (a' := ?_) #[true, true, true, true, true, false, false, true, true, true, true, false, false, false, false, false, false, false] rfl rfl (by kernel_rfl) (fun _ _ _ h => h) (Or.inl ⟨by rfl, ?_⟩) ?_ ?_
          rotate_left
          · intro w'
            go_simp
            with_reducible rfl
          rotate_left
          · simp only [Act.put, List.setIfInBounds_toArray, List.set_cons_zero, List.set_cons_succ, i64_w, i32_w]
            rfl
          refine take_ (i := 5) (N := some 72) (v := ?_) (a' := ?_) #[true, true, true, true, true, true, false, true, true, true, true, false, false, false, false, false, false, false] rfl rfl (by kernel_rfl) (fun _ _ _ h => h) (Or.inl ⟨by rfl, ?_⟩) hHeld ?_ ?_
          rotate_left
          · rintro w' ⟨s0, s1⟩
            go_simp
            with_reducible rfl
          rotate_left
          · simp only [Act.put, List.setIfInBounds_toArray, List.set_cons_zero, List.set_cons_succ, i64_w, i32_w]
            rfl
          refine pure_ (i := 6) (N := some 73) (v := ?_) (a' := ?_) #[true, true, true, true, true, true, true, true, true, true, true, false, false, false, false, false, false, false] rfl rfl (by kernel_rfl) (fun _ _ _ h => h) (Or.inl ⟨by rfl, ?_⟩) ?_ ?_
          rotate_left
          · intro w'
            go_simp
            with_reducible rfl
          rotate_left
          · simp only [Act.put, List.setIfInBounds_toArray, List.set_cons_zero, List.set_cons_succ, i64_w, i32_w]
            rfl
          refine take_ (i := 11) (N := some 78) (v := ?_) (a' := ?_) #[true, true, true, true, true, true, true, true, true, true, true, true, false, false, false, false, false, false] rfl rfl (by kernel_rfl) (fun _ _ _ h => h) (Or.inl ⟨by rfl, ?_⟩) hHeld ?_ ?_
          rotate_left
          · rintro w' ⟨s0, s1⟩
            go_simp
            with_reducible rfl
          rotate_left
          · simp only [Act.put, List.setIfInBounds_toArray, List.set_cons_zero, List.set_cons_succ, i64_w, i32_w]
            rfl
          refine pure_ (i := 12) (N := some 79) (v := ?_) (a' := ?_) #[true, true, true, true, true, true, true, true, true, true, true, true, true, false, false, false, false, false] rfl rfl (by kernel_rfl) (fun _ _ _ h => h) (Or.inl ⟨by rfl, ?_⟩) ?_ ?_
          rotate_left
          · intro w'
            go_simp
            with_reducible rfl
          rotate_left
          · simp only [Act.put, List.setIfInBounds_toArray, List.set_cons_zero, List.set_cons_succ, i64_w, i32_w]
            rfl
          refine pure_ (i := 13) (N := some 80) (v := ?_) (a' := ?_) #[true, true, true, true, true, true, true, true, true, true, true, true, true, true, false, false, false, false] rfl rfl (by kernel_rfl) (fun _ _ _ h => h) (Or.inl ⟨by rfl, ?_⟩) ?_ ?_
          rotate_left
          · intro w'
            go_simp
            with_reducible rfl
          rotate_left
          · simp only [Act.put, List.setIfInBounds_toArray, List.set_cons_zero, List.set_cons_succ, i64_w, i32_w]
            rfl
          refine pure_ (i := 14) (N := some 81) (v := ?_) (a' := ?_) #[true, true, true, true, true, true, true, true, true, true, true, true, true, true, true, false, false, false] rfl rfl (by kernel_rfl) (fun _ _ _ h => h) (Or.inl ⟨by rfl, ?_⟩) ?_ ?_
          rotate_left
          · intro w'
            go_simp
            with_reducible rfl
          rotate_left
          · simp only [Act.put, List.setIfInBounds_toArray, List.set_cons_zero, List.set_cons_succ, i64_w, i32_w]
            rfl
          refine pure_ (i := 15) (N := some 82) (v := ?_) (a' := ?_) #[true, true, true, true, true, true, true, true, true, true, true, true, true, true, true, true, false, false] rfl rfl (by kernel_rfl) (fun _ _ _ h => h) (Or.inl ⟨by rfl, ?_⟩) ?_ ?_
          rotate_left
          · intro w'
            go_simp
            with_reducible rfl
          rotate_left
          · simp only [Act.put, List.setIfInBounds_toArray, List.set_cons_zero, List.set_cons_succ, i64_w, i32_w]
            rfl
          refine pure_ (i := 16) (N := some 83) (v := ?_) (a' := ?_) #[true, true, true, true, true, true, true, true, true, true, true, true, true, true, true, true, true, false] rfl rfl (by kernel_rfl) (fun _ _ _ h => h) (Or.inl ⟨by rfl, ?_⟩) ?_ ?_
          rotate_left
          · intro w'
            go_simp
            with_reducible rfl
          rotate_left
          · simp only [Act.put, List.setIfInBounds_toArray, List.set_cons_zero, List.set_cons_succ, i64_w, i32_w]
            rfl
          refine last_ (i := 17) (N := none) #[true, true, true, true, true, true, true, true, true, true, true, true, true, true, true, true, true, true] rfl rfl (by kernel_rfl) (by decide) (fun K hK => ?_)
          refine skip_ (w1 := ?_) (by rfl) rfl ?_ ?_
          rotate_left
          · go_simp
            rfl
          refine hK.out _ _ ?_
          clear hK K
          refine done_ (by kernel_rfl) ?_

          go_wp2
          go_end0
          have h9 := HD4.out.put 8 (.int .i64 (((x.next + 1) % n : Nat) : Int)) { y4 with next := (x.next + 1) % n } (by simp [Dv.cells]) rfl rfl
          refine ⟨rfl, ?_, ?_⟩
          · have hT : x.tick = { y4 with next := (x.next + 1) % n } := by
              rw [HX.out, if_neg (by rw [← HN.out]; exact hl0), if_neg hq, HY4.out, HY.out.1, ← HN.out]
            rw [hT, ← HN.out]
            exact h9.1.drewN 1
          · exact (HF4.out.trans h9.2).drewN 1
end Go.Proofs.Ytpolofolibabiaa.Bs
