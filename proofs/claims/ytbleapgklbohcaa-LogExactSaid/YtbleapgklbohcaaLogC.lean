/-
  Walk of log.entry, where there is a record.
  No conditions.
-/
import Derived.Test.YtbleapgklbohcaaLogB
import Derived.Test.YtbleapgklbohcaaWTab
namespace Go.Proofs.Ytbleapgklbohcaa.Lg
open Go.RowKit Go.Proofs.YtbleapgklbohcaaW.PrintWords Go.Proofs.YtbleapgklbohcaaW.PrintLast Go.Proofs.YtbleapgklbohcaaW.PrintMore
set_option linter.unusedSimpArgs false
set_option linter.unusedVariables false
def byteAt (R : List Int) (k : Nat) : Int := (rd R ((1 + k / 4 : Nat) : Int)) / 2 ^ (24 - 8 * (k % 4)) % 256
def vals (R : List Int) (k : Nat) : List Int := (List.range k).map (byteAt R)
theorem vals_succ (R : List Int) (k : Nat) : vals R (k + 1) = vals R k ++ [byteAt R k] := by unfold vals; rw [List.range_succ, List.map_append]; rfl
theorem vals_len (R : List Int) (k : Nat) : (vals R k).length = k := by unfold vals; rw [List.length_map, List.length_range]
theorem wrap_u32 (x : Int) : IntKind.u32.wrap x = x % 4294967296 := by rfl
theorem nums (k : Nat) (hk : k < 25) : wrap64 ((k : Int) / 4) = ((k / 4 : Nat) : Int) ∧ wrap64 (1 + ((k / 4 : Nat) : Int)) = ((1 + k / 4 : Nat) : Int) ∧ wrap64 (8 * ((k : Int) % 4)) = ((8 * (k % 4) : Nat) : Int) ∧ wrap64 (24 - ((8 * (k % 4) : Nat) : Int)) = ((24 - 8 * (k % 4) : Nat) : Int) ∧ (((24 - 8 * (k % 4) : Nat) : Int)).toNat = 24 - 8 * (k % 4) ∧ min (((24 - 8 * (k % 4) : Nat) : Int)).toNat 32 = 24 - 8 * (k % 4) ∧ 0 ≤ (((24 - 8 * (k % 4) : Nat) : Int)) ∧ (((24 - 8 * (k % 4) : Nat) : Int)) ≤ 32 := by
  unfold wrap64
  refine ⟨?_, ?_, ?_, ?_, ?_, ?_, ?_, ?_⟩ <;> omega
theorem below_set' {b : Nat} {w W : World} {g j : Nat} {v : Value} (h : Below b w W) (hg : b ≤ g) : Below b w (W.setCell ⟨g, j, none⟩ v) := h.setCell hg _
theorem call_frame {w w' : World} {g j : Nat} {v : Value} {o : Obj} (hg : g < w.heap.size) (hb : Below (w.alloc o).heap.size ((w.alloc o).setCell ⟨g, j, none⟩ v) w') : Below w.heap.size (w.setCell ⟨g, j, none⟩ v) w' ∧ w'.heap[w.heap.size]? = some o := by
  have h1 : ∀ k : Nat, k < w.heap.size → ((w.alloc o).setCell ⟨g, j, none⟩ v).heap[k]? = (w.setCell ⟨g, j, none⟩ v).heap[k]? := by
    intro k hk
    have h3 : (w.alloc o).heap[k]? = w.heap[k]? := ((Below.refl w.heap.size w).alloc (Nat.le_refl _) o).block k hk
    simp [World.setCell, Array.getElem?_modify, h3]
  have h2 : ((w.alloc o).setCell ⟨g, j, none⟩ v).heap[w.heap.size]? = some o := (Below.heap_setCell _ _ _ _ (by show w.heap.size ≠ g; omega)).trans (blk_new w o)
  have hs : (w.alloc o).heap.size = w.heap.size + 1 := World.size_alloc w o
  refine ⟨⟨hb.os, hb.tape, hb.output, ?_, fun k hk => (hb.block k (by omega)).trans (h1 k hk)⟩, (hb.block _ (by omega)).trans h2⟩
  have := hb.size
  have h3 : (w.setCell ⟨g, j, none⟩ v).heap.size = w.heap.size := by simp [World.setCell]
  have h4 : ((w.alloc o).setCell ⟨g, j, none⟩ v).heap.size = w.heap.size + 1 := by rw [← hs]; simp [World.setCell]
  omega
def T11 : Bool × List (List Nat × List Nat) := (true, [([], []), ([0], [0]), ([], []), ([], []), ([3], [3]), ([4], [4]), ([2, 5], [2, 5]), ([6], [6]), ([], []), ([8], [8]), ([9], [9]), ([10], [10]), ([7, 11], [7, 11]), ([12], [12]), ([13], [13]), ([1, 14], [1, 14]), ([0, 1, 2, 3, 4, 5, 6, 7, 8, 9, 10, 11, 12, 13, 14, 15], []), ([16, 15, 15, 0, 1, 2, 3, 4, 5, 6, 7, 8, 9, 10, 11, 12, 13, 14, 15], [15, 16])])
def B11 : List Nat := [0, 1, 0, 0, 8, 24, 60, 124, 0, 256, 768, 1792, 4092, 8188, 16380, 32767, 65535, 131071]
theorem tab11 : rtab .any (opsOf Try.f26 11) = T11 := by kernel_rfl
theorem bits11 : waitsOk T11.2 B11 = true := by kernel_rfl
def T14 : Bool × List (List Nat × List Nat) := (true, [([], []), ([], []), ([], []), ([1, 2], [1, 2]), ([3], [3]), ([], []), ([], []), ([5, 6], [5, 6]), ([7], [7]), ([8], [8]), ([9], [9]), ([4, 10], [4, 10]), ([0, 8, 0], [0]), ([11, 12, 0, 1, 2, 3, 4, 5, 6, 7, 8, 9, 10, 11, 12], [11]), ([13, 0, 1, 2, 3, 4, 5, 6, 7, 8, 9, 10, 11, 12, 13], [])])
def B14 : List Nat := [0, 0, 0, 6, 14, 0, 0, 96, 224, 480, 992, 2046, 481, 8191, 16383]
theorem tab14 : rtab .any (opsOf Try.f26 14) = T14 := by kernel_rfl
theorem bits14 : waitsOk T14.2 B14 = true := by kernel_rfl
set_option maxHeartbeats 8000000 in
set_option maxRecDepth 100000 in
theorem entry_yes (g : Nat) (A : Option Addr) (c : Nat) (l : List Int) (at_ f key n : Int) (w w0 wg : World) (hB0 : Below w0.heap.size w0 w) (hg : w0.heap.size ≤ g) (hwg : wg = w.setCell ⟨g, 1, none⟩ (.int .i64 (at_ + ((n + 3) / 4 + 2))))
    (hb : w.heap[g]? = some (.cells #[.slice A l.length c, .int .i64 at_] 60 (0, 0))) (hr : Kd.C (Kd.int .u32) w0 A l.length l) (hc : l.length ≤ c) (h0 : 0 ≤ at_) (h1 : at_ ≤ 256)
    (hk : IntKind.i64.wrap (Go.bits .and .u32 (f / 256) 65535) = key) (hn : IntKind.i64.wrap (Go.bits .and .u32 f 255) = n) (h : Go.bits .and .u32 f 4278190080 = 1375731712 ∧ key < 16 ∧ n ≤ 24) (hn0 : 0 ≤ n) (hle : at_ + ((n + 3) / 4 + 2) ≤ (l.length : Int))
    (R : List Int) (hR : R = (l.take (at_ + ((n + 3) / 4 + 2)).toNat).drop at_.toNat) :
    Calls Try.prog 26 #[.pointer (some ⟨g, 0, none⟩), .int .u32 f] w fun e w' => ∃ v, e = .returned (.tuple #[.agg #[.int .i64 key, v], .bool (rd R ((n + 3) / 4 + 1) == (1124073472 + sumW (R.take ((n + 3) / 4 + 1).toNat) (R.take ((n + 3) / 4 + 1).toNat).length % 4294967296) % 4294967296), .bool true]) ∧ Kd.R (Kd.int .u8) 5 w' w.heap.size (fun _ => True) v (vals R n.toNat) ∧ Below w.heap.size wg w' := by
  obtain ⟨h1', h2, h3⟩ := h
  have h1b : (Go.bits .and .u32 f 4278190080 != 1375731712) = false := bne_eq_false_iff_eq.mpr h1'
  have h2c : decide (16 ≤ key) = false := decide_eq_false (by omega)
  have h3b : decide (24 < n) = false := decide_eq_false (by omega)
  have hw1 : IntKind.i64.wrap (n + 3) = n + 3 := by rw [i64_w]; unfold wrap64; omega
  have hw2 : IntKind.i64.wrap ((n + 3).tdiv 4) = (n + 3) / 4 := by rw [i64_w, Int.tdiv_eq_ediv_of_nonneg (by omega)]; unfold wrap64; omega
  have hw3 : IntKind.i64.wrap ((n + 3) / 4 + 2) = (n + 3) / 4 + 2 := by rw [i64_w]; unfold wrap64; omega
  obtain ⟨m, hm⟩ : ∃ m : Nat, m = ((n + 3) / 4 + 2).toNat := ⟨_, rfl⟩
  obtain ⟨last, hla⟩ : ∃ last : Int, last = (n + 3) / 4 + 1 := ⟨_, rfl⟩
  have hw4 : IntKind.i64.wrap ((m : Int) - 1) = last := by rw [i64_w]; unfold wrap64; omega
  have hRl : R.length = m := by rw [hR, List.length_drop, List.length_take]; omega
  have hgl : g < w.heap.size := blk_lt hb
  have HSZ : RowKit.Hid (wg.heap.size = w.heap.size) := by rw [hwg]; simp [World.setCell, RowKit.Hid]
  have HBg0 : RowKit.Hid (Below w0.heap.size w0 wg) := by rw [hwg]; exact below_set hB0 hg
  have hm2 := Lib.hid hm
  have hla2 := Lib.hid hla
  obtain ⟨Q, hQ⟩ : ∃ Q, Q = R.take last.toNat := ⟨_, rfl⟩
  rw [← hla, ← hQ]
  have HQ := Lib.hid hQ
  clear hQ
  have HB1 := Lib.hid hb
  have HR0 := Lib.hid hr
  have HLE := Lib.hid hle
  have hn0' := Lib.hid hn0
  have h3' := Lib.hid h3
  have HRl := Lib.hid hRl
  have HR := Lib.hid hR
  have HWG := Lib.hid hwg
  have HGL := Lib.hid hgl
  have HG := Lib.hid hg
  clear h1' h2 hb hn0 h3 hr hle hm hla hRl hR hwg hgl hg
  go_enter Try.func26, Try.ntmps26
  go_wp2_with (go_at_call 33; obtain ⟨A', c', hC, hC', hcall⟩ := next_yes g A c l at_ ((n + 3) / 4 + 2) (w.alloc (.cells #[.int .i64 0, .slice none 0 0] 25)) w0 (blk_below HB1.out ((Below.refl _ _).alloc (Nat.le_refl _) _)) h0 h1 (by have := hn0'.out; omega) (by have := h3'.out; omega) HLE.out HR0.out hc; rw [← hm2.out] at hC hC' hcall; rw [← HR.out] at hC; refine hcall.mono ?_; rintro e w' ⟨rfl, hb1⟩; have hfr := Lib.hid (call_frame HGL.out hb1); clear hb1 hcall; have HC := Lib.hid hC; have HC' := Lib.hid hC'; clear hC hC')
  have HBg : RowKit.Hid (Below w.heap.size wg w') := by have := hfr.out.1; rw [← HWG.out] at this; exact this
  have BK0 := Lib.hid hfr.out.2
  have HCg : RowKit.Hid (Kd.C (Kd.int .u32) wg A' m R) := Kd.C_below HC.out HBg0.out
  clear hfr
  obtain ⟨N, hN⟩ : ∃ N : Nat, n = (N : Int) := ⟨n.toNat, by have := hn0'.out; omega⟩
  obtain ⟨ad, hA⟩ : ∃ ad, A' = some ad := by
    obtain ⟨ad, ha, _⟩ := Kd.at_int HCg.out 0 (by omega) (by have := hm2.out; have := hn0'.out; omega)
    exact ⟨ad, ha⟩
  subst hA
  have HN := Lib.hid hN
  have hN24 : N ≤ 24 := by have := h3'.out; have := HN.out; omega
  have HN24 := Lib.hid hN24
  have e0 : (.int .i64 n : Value) = .int .i64 (N : Int) := by rw [hN]
  clear hN hN24
  go_loopg [47] N (fun kq v47 W => ∃ (k : Nat) (v : Value), v47 = .int .i64 (k : Int) ∧ k + kq = N ∧ RowKit.Hid (Kd.R (Kd.int .u8) 5 W w.heap.size (fun _ => True) v (vals R k)) ∧ RowKit.Hid (W.heap[w.heap.size]? = some (.cells #[.int .i64 0, v] 25 (0, 0))) ∧ RowKit.Hid (Below w.heap.size wg W))
  case atStart => exact ⟨0, .slice none 0 0, rfl, by omega, Kd.R_nil _ _ _ _ _, BK0, HBg⟩
  case round =>
    obtain ⟨k, v, rfl, hkq, HO, BK, HB⟩ := hrel
    clear BK0 HBg
    by_cases hkn : k < N
    · have hd : decide ((k : Int) < n) = true := decide_eq_true (by have := HN.out; omega)
      have hk1 := Lib.hid hkn
      obtain ⟨d, hd_⟩ : ∃ d : Int, d = ((k / 4 : Nat) : Int) := ⟨_, rfl⟩
      obtain ⟨j, hj_⟩ : ∃ j : Int, j = ((1 + k / 4 : Nat) : Int) := ⟨_, rfl⟩
      obtain ⟨t, ht_⟩ : ∃ t : Int, t = ((8 * (k % 4) : Nat) : Int) := ⟨_, rfl⟩
      obtain ⟨s, hs_⟩ : ∃ s : Int, s = ((24 - 8 * (k % 4) : Nat) : Int) := ⟨_, rfl⟩
      obtain ⟨y, hy_⟩ : ∃ y : Int, y = rd R j / 2 ^ (24 - 8 * (k % 4)) := ⟨_, rfl⟩
      have hk24 : k < 25 := by have := HN24.out; clear hy_; omega
      have hj0 : 0 ≤ j := by rw [hj_]; exact Int.natCast_nonneg _
      have hjm : j < (m : Int) := by have := hm2.out; have := hn0'.out; have := HN.out; clear hy_; omega
      obtain ⟨n5, n6, n7, n8, hst, hs1, hs00, hs33⟩ := nums k hk24
      have hq5 : wrap64 ((k : Int) / 4) = d := by rw [hd_]; exact n5
      have hq5' : wrap64 ((k : Int).tdiv 4) = d := by rw [Int.tdiv_eq_ediv_of_nonneg (Int.natCast_nonneg _)]; exact hq5
      have hq6 : wrap64 (1 + d) = j := by rw [hd_, hj_]; exact n6
      have hq7 : wrap64 (8 * ((k : Int) % 4)) = t := by rw [ht_]; exact n7
      have hq7' : wrap64 (8 * (k : Int).tmod 4) = t := by rw [Int.tmod_eq_emod_of_nonneg (Int.natCast_nonneg _)]; exact hq7
      have hq8 : wrap64 (24 - t) = s := by rw [ht_, hs_]; exact n8
      rw [← hs_] at hst hs1 hs00 hs33
      have hy1 : rd R j / 2 ^ min s.toNat 32 = y := by rw [hs1, hy_]
      have hy2 : rd R j / 2 ^ s.toNat = y := by rw [hst, hy_]
      have hyB : y % 256 = byteAt R k := by rw [hy_, hj_]; rfl
      clear hy_ n5 n6 n7 n8
      have hs0 : 0 ≤ s := hs00
      obtain ⟨ad', hA', hcg⟩ := Kd.at_int HCg.out j hj0 hjm
      obtain rfl : ad = ad' := by injection hA'
      have HCG := Lib.hid hcg
      have HYB := Lib.hid hyB
      have hj0' := eq_true hj0
      have hjm' := eq_true hjm
      have hs0' := eq_true hs0
      have hs32 : (s ≤ 32) = True := eq_true hs33
      have LT := hcg
      clear hA' hcg hyB hj0 hjm hs0 hkn hk24 hd_ hj_ ht_ hs_ hst hs1 hs00 hs33 LT
      obtain ⟨ys, hys⟩ : ∃ ys, ys = vals R k ++ [y % 256] := ⟨_, rfl⟩
      have HYS := Lib.hid hys
      clear hys
      try go_wp2
      have HO1 := Lib.hid (Kd.R_drew HO.out)
      have BK1 := Lib.hid (blk_drew BK.out)
      have HB1_ := Lib.hid (below_drew1 HB.out)
      clear HO BK HB
      have HO := HO1
      have BK := BK1
      have HB := HB1_
      clear HO1 BK1 HB1_
      have HPC : RowKit.Hid (wr.drew.cell? (ad.add j.toNat) = some (.int .u32 (rd R j))) := (HB.out.cell (by rw [← HSZ.out]; exact World.block_lt_of_cell? _ _ HCG.out)).trans HCG.out
      refine start_ (n := 18) (S := fun w' => w'.cell? ⟨w.heap.size, 1, none⟩ = some v ∧ w'.cell? (ad.add j.toNat) = some (.int .u32 (rd R j))) (ds := [17]) #[false, false, false, false, false, false, false, false, false, false, false, false, false, false, false, false, false, false] (by kernel_rfl) rfl rfl ⟨(blk_cell BK.out 1).trans rfl, HPC.out⟩ (fun hHeld => ?_); refine with_tabW tab11 bits11 (fun HT_ HW_ => ?_)
      generalize wr.drew = w34 at HO BK HB HPC hHeld ⊢
      refine pure_ (i := 0) (N := some 50) (v := ?_) (a' := ?_) #[true, false, false, false, false, false, false, false, false, false, false, false, false, false, false, false, false, false] rfl rfl (any_of HT_.out (by kernel_rfl)) (fun _ _ _ h => h) (Or.inl ⟨by rfl, ?_⟩) ?_ ?_
      rotate_left
      · intro w'
        go_simp
        with_reducible rfl
      rotate_left
      · simp only [Act.put, List.setIfInBounds_toArray, List.set_cons_zero, List.set_cons_succ, i64_w, i32_w, hq5, hq5', hq6, hq7, hq7', hq8]
        rfl
      refine pure_ (i := 2) (N := some 52) (v := ?_) (a' := ?_) #[true, false, true, false, false, false, false, false, false, false, false, false, false, false, false, false, false, false] rfl rfl (any_of HT_.out (by kernel_rfl)) (fun _ _ _ h => h) (Or.inl ⟨by rfl, ?_⟩) ?_ ?_
      rotate_left
      · intro w'
        go_simp
        with_reducible rfl
      rotate_left
      · simp only [Act.put, List.setIfInBounds_toArray, List.set_cons_zero, List.set_cons_succ, i64_w, i32_w, hq5, hq5', hq6, hq7, hq7', hq8]
        rfl
      refine pure_ (i := 3) (N := some 53) (v := ?_) (a' := ?_) #[true, false, true, true, false, false, false, false, false, false, false, false, false, false, false, false, false, false] rfl rfl (any_of HT_.out (by kernel_rfl)) (fun _ _ _ h => h) (Or.inl ⟨by rfl, ?_⟩) ?_ ?_
      rotate_left
      · intro w'
        go_simp
        with_reducible rfl
      rotate_left
      · simp only [Act.put, List.setIfInBounds_toArray, List.set_cons_zero, List.set_cons_succ, i64_w, i32_w, hq5, hq5', hq6, hq7, hq7', hq8]
        rfl
      refine pure_ (i := 4) (N := some 54) (v := ?_) (a' := ?_) #[true, false, true, true, true, false, false, false, false, false, false, false, false, false, false, false, false, false] rfl rfl (any_of HT_.out (by kernel_rfl)) (fun _ _ _ h => h) (Or.inl ⟨by rfl, ?_⟩) ?_ ?_
      rotate_left
      · intro w'
        go_simp
        with_reducible rfl
      rotate_left
      · simp only [Act.put, List.setIfInBounds_toArray, List.set_cons_zero, List.set_cons_succ, i64_w, i32_w, hq5, hq5', hq6, hq7, hq7', hq8]
        rfl
      refine pure_ (i := 5) (N := some 55) (v := ?_) (a' := ?_) #[true, false, true, true, true, true, false, false, false, false, false, false, false, false, false, false, false, false] rfl rfl (any_of HT_.out (by kernel_rfl)) (fun _ _ _ h => h) (Or.inl ⟨by rfl, ?_⟩) ?_ ?_
      rotate_left
      · intro w'
        go_simp
        with_reducible rfl
      rotate_left
      · simp only [Act.put, List.setIfInBounds_toArray, List.set_cons_zero, List.set_cons_succ, i64_w, i32_w, hq5, hq5', hq6, hq7, hq7', hq8]
        rfl
      refine pure_ (i := 6) (N := some 56) (v := ?_) (a' := ?_) #[true, false, true, true, true, true, true, false, false, false, false, false, false, false, false, false, false, false] rfl rfl (any_of HT_.out (by kernel_rfl)) (fun _ _ _ h => h) (Or.inl ⟨by rfl, ?_⟩) ?_ ?_
      rotate_left
      · intro w'
        go_simp
        with_reducible rfl
      rotate_left
      · simp only [Act.put, List.setIfInBounds_toArray, List.set_cons_zero, List.set_cons_succ, i64_w, i32_w, hq5, hq5', hq6, hq7, hq7', hq8]
        rfl
      refine pure_ (i := 8) (N := some 58) (v := ?_) (a' := ?_) #[true, false, true, true, true, true, true, false, true, false, false, false, false, false, false, false, false, false] rfl rfl (any_of HT_.out (by kernel_rfl)) (fun _ _ _ h => h) (Or.inl ⟨by rfl, ?_⟩) ?_ ?_
      rotate_left
      · intro w'
        go_simp
        with_reducible rfl
      rotate_left
      · simp only [Act.put, List.setIfInBounds_toArray, List.set_cons_zero, List.set_cons_succ, i64_w, i32_w, hq5, hq5', hq6, hq7, hq7', hq8]
        rfl
      refine pure_ (i := 9) (N := some 59) (v := ?_) (a' := ?_) #[true, false, true, true, true, true, true, false, true, true, false, false, false, false, false, false, false, false] rfl rfl (any_of HT_.out (by kernel_rfl)) (fun _ _ _ h => h) (Or.inl ⟨by rfl, ?_⟩) ?_ ?_
      rotate_left
      · intro w'
        go_simp
        with_reducible rfl
      rotate_left
      · simp only [Act.put, List.setIfInBounds_toArray, List.set_cons_zero, List.set_cons_succ, i64_w, i32_w, hq5, hq5', hq6, hq7, hq7', hq8]
        rfl
      refine pure_ (i := 10) (N := some 60) (v := ?_) (a' := ?_) #[true, false, true, true, true, true, true, false, true, true, true, false, false, false, false, false, false, false] rfl rfl (any_of HT_.out (by kernel_rfl)) (fun _ _ _ h => h) (Or.inl ⟨by rfl, ?_⟩) ?_ ?_
      rotate_left
      · intro w'
        go_simp
        with_reducible rfl
      rotate_left
      · simp only [Act.put, List.setIfInBounds_toArray, List.set_cons_zero, List.set_cons_succ, i64_w, i32_w, hq5, hq5', hq6, hq7, hq7', hq8]
        rfl
      refine pure_ (i := 11) (N := some 61) (v := ?_) (a' := ?_) #[true, false, true, true, true, true, true, false, true, true, true, true, false, false, false, false, false, false] rfl rfl (any_of HT_.out (by kernel_rfl)) (fun _ _ _ h => h) (Or.inl ⟨by rfl, ?_⟩) ?_ ?_
      rotate_left
      · intro w'
        go_simp
        with_reducible rfl
      rotate_left
      · simp only [Act.put, List.setIfInBounds_toArray, List.set_cons_zero, List.set_cons_succ, i64_w, i32_w, hq5, hq5', hq6, hq7, hq7', hq8]
        rfl
      refine take_ (i := 1) (N := some 51) (v := ?_) (a' := ?_) #[true, true, true, true, true, true, true, false, true, true, true, true, false, false, false, false, false, false] rfl rfl (take_ofW HT_.out HW_.out (by kernel_rfl)) (fun _ _ _ h => h) (Or.inl ⟨by rfl, ?_⟩) hHeld ?_ ?_
      rotate_left
      · rintro w' ⟨s0, s1⟩
        go_simp
        with_reducible rfl
      rotate_left
      · simp only [Act.put, List.setIfInBounds_toArray, List.set_cons_zero, List.set_cons_succ, i64_w, i32_w]
        rfl
      refine take_ (i := 7) (N := some 57) (v := ?_) (a' := ?_) #[true, true, true, true, true, true, true, true, true, true, true, true, false, false, false, false, false, false] rfl rfl (take_ofW HT_.out HW_.out (by kernel_rfl)) (fun _ _ _ h => h) (Or.inl ⟨by rfl, ?_⟩) hHeld ?_ ?_
      rotate_left
      · rintro w' ⟨s0, s1⟩
        go_simp
        with_reducible rfl
      rotate_left
      · simp only [Act.put, List.setIfInBounds_toArray, List.set_cons_zero, List.set_cons_succ, i64_w, i32_w]
        rfl
      refine pure_ (i := 12) (N := some 62) (v := ?_) (a' := ?_) #[true, true, true, true, true, true, true, true, true, true, true, true, true, false, false, false, false, false] rfl rfl (any_of HT_.out (by kernel_rfl)) (fun _ _ _ h => h) (Or.inl ⟨by rfl, ?_⟩) ?_ ?_
      rotate_left
      · intro w'
        go_simp
        with_reducible rfl
      rotate_left
      · simp only [Act.put, List.setIfInBounds_toArray, List.set_cons_zero, List.set_cons_succ, i64_w, i32_w, hq5, hq5', hq6, hq7, hq7', hq8]
        rfl
      refine pure_ (i := 13) (N := some 63) (v := ?_) (a' := ?_) #[true, true, true, true, true, true, true, true, true, true, true, true, true, true, false, false, false, false] rfl rfl (any_of HT_.out (by kernel_rfl)) (fun _ _ _ h => h) (Or.inl ⟨by rfl, ?_⟩) ?_ ?_
      rotate_left
      · intro w'
        go_simp
        with_reducible rfl
      rotate_left
      · simp only [Act.put, List.setIfInBounds_toArray, List.set_cons_zero, List.set_cons_succ, i64_w, i32_w, hq5, hq5', hq6, hq7, hq7', hq8]
        rfl
      refine one_ (i := 14) (N := some 64) #[true, true, true, true, true, true, true, true, true, true, true, true, true, true, true, false, false, false] rfl rfl (one_of HT_.out (by kernel_rfl)) (by decide) (fun K hK => ?_)
      refine value_ (w1 := ?_) (v := ?_) (by rfl) rfl ?_ ?_
      rotate_left 2
      · go_simp
        constructor
        · rfl
        · rfl
      refine hK.out _ _ ⟨(blk_cell (blk_alloc BK.out _) 1).trans rfl, (World.cell?_alloc_lt _ _ _ (World.block_lt_of_cell? _ _ hHeld.2)).trans hHeld.2⟩ (fun hHeld => ?_)
      clear hK K
      refine norm_ (a' := ?_) ?_ ?_
      rotate_left
      · show Act.put _ (some 64) _ = _
        simp only [Act.put, List.setIfInBounds_toArray, List.set_cons_zero, List.set_cons_succ, i64_w, i32_w]
        rfl
      refine one_ (i := 15) (N := some 65) #[true, true, true, true, true, true, true, true, true, true, true, true, true, true, true, true, false, false] rfl rfl (one_of HT_.out (by kernel_rfl)) (by decide) (fun K hK => ?_)
      refine Kd.R_append_step (Kd.int .u8) (w0 := wg) w.heap.size (by rfl) (.tmp 51) (.tmp 64) 23 5 (.int .u8 0) 1 rfl Try.underlying23 info5 rfl (by decide) (by omega) v (vals R k) (y % 256) [.int .u8 (y % 256)] (fun _ => True) (fun _ => False) rfl rfl ?aP (fun _ hk => hk.elim) ?aF ?aO ?aB ?aS ?aL ?_
      (case aP => exact rfl)
      (case aF => exact (fun _ _ => trivial))
      (case aO => exact (by (with_reducible repeat (first | apply Kd.R_alloc | apply Kd.R_drewN | apply Kd.R_drew)); exact HO.out))
      (case aB => exact (by repeat (first | (with_reducible first | exact HB.out | apply below_alloc | apply pw_below_drewN | apply below_drew1) | exact HB.out)))
      (case aS => have := HB.out.size; have := HSZ.out; omega)
      (case aL => rw [vals_len]; have := hk1.out; have := h3'.out; omega)
      intro v1 w2 ho hb2 hgr hat
      rw [← HYS.out] at ho
      have n1_ := Lib.hid (blk_grown BK.out hgr (Kd.R_ne HO.out BK.out (by decide)))
      have n2_ := Lib.hid hb2
      have n3_ := Lib.hid ho
      skip
      clear HB
      have HB := n2_
      have BK2 := n1_
      have HO2 := n3_
      clear n1_ n2_ n3_ ho hb2 hgr hat
      obtain ⟨Ao, co, eo⟩ := Kd.R_slice HO2.out
      subst eo
      refine hK.out _ _ ⟨(blk_cell BK2.out 1).trans rfl, (HB.out.cell (by rw [← HSZ.out]; exact World.block_lt_of_cell? _ _ HCG.out)).trans HCG.out⟩ (fun hHeld => ?_)
      clear hK K
      refine norm_ (a' := ?_) ?_ ?_
      rotate_left
      · show Act.put _ (some 65) _ = _
        simp only [Act.put, List.setIfInBounds_toArray, List.set_cons_zero, List.set_cons_succ, i64_w, i32_w]
        rfl
      refine pure_ (i := 16) (N := some 66) (v := ?_) (a' := ?_) #[true, true, true, true, true, true, true, true, true, true, true, true, true, true, true, true, true, false] rfl rfl (any_of HT_.out (by kernel_rfl)) (fun _ _ _ h => h) (Or.inl ⟨by rfl, ?_⟩) ?_ ?_
      rotate_left
      · intro w'
        go_simp
        with_reducible rfl
      rotate_left
      · simp only [Act.put, List.setIfInBounds_toArray, List.set_cons_zero, List.set_cons_succ, i64_w, i32_w, hq5, hq5', hq6, hq7, hq7', hq8]
        rfl
      refine last_ (i := 17) (N := none) #[true, true, true, true, true, true, true, true, true, true, true, true, true, true, true, true, true, true] rfl rfl (one_of HT_.out (by kernel_rfl)) (by decide) (fun K hK => ?_)
      have hs37 : w2.cell? ⟨w.heap.size, 1, none⟩ = some v := (blk_cell BK2.out 1).trans rfl
      have hfs37 := blk_frozen BK2.out 1
      refine skip_ (w1 := ?_) (by rfl) rfl ?_ ?_
      rotate_left
      · go_simp
        rfl
      refine hK.out _ _ ?_
      clear hK K
      refine done_ (done_of HT_.out (by kernel_rfl)) ?_
      go_wp2
      go_roundg (N - (k + 1))
      case measure => omega
      case rel =>
        have hq9 : wrap64 ((k : Int) + 1) = ((k + 1 : Nat) : Int) := by have := hk1.out; have := HN24.out; clear hy1 hy2; unfold wrap64; omega
        have hq9' : IntKind.i64.wrap ((k : Int) + 1) = ((k + 1 : Nat) : Int) := by rw [i64_w]; exact hq9
        refine ⟨k + 1, .slice Ao ys.length co, by first | rw [hq9] | rw [hq9'] | rfl, Nat.add_sub_of_le hk1.out, ?_, ?_, ?_⟩
        · have h1 := Kd.R_far (p := ⟨w.heap.size, 1, none⟩) (Kd.R_types HO2.out BK2.out (by decide)) (fun _ hk => hk.2) (.slice Ao ys.length co)
          rw [vals_succ, ← HYB.out, ← HYS.out]
          exact Kd.R_mono h1 (fun _ _ => trivial)
        · exact blk_put (cs := #[.int .i64 0, v]) BK2.out 1 _ rfl
        · exact below_set' HB.out (Nat.le_refl _)
    · have hd : decide ((k : Int) < n) = false := decide_eq_false (by have := HN.out; omega)
      have hk2 : k = N := by omega
      obtain ⟨Av, cv, ev⟩ := Kd.R_slice HO.out
      obtain ⟨nv, hnv⟩ : ∃ nv, nv = (vals R k).length := ⟨_, rfl⟩
      rw [← hnv] at ev
      clear hnv
      subst ev
      have hb0 : wr.cell? ⟨w.heap.size, 0, none⟩ = some (.int .i64 0) := (blk_cell BK.out 0).trans rfl
      have hb1 : wr.cell? ⟨w.heap.size, 1, none⟩ = some (.slice Av nv cv) := (blk_cell BK.out 1).trans rfl
      have hf0 := blk_frozen BK.out 0
      have hf1 := blk_frozen BK.out 1
      go_wp2
      have hl0 : 0 ≤ last := by have := hla2.out; have := hn0'.out; omega
      have hlm : last < (m : Int) := by have := hla2.out; have := hm2.out; have := hn0'.out; omega
      have hlm2 : last ≤ (R.length : Int) := by have := HRl.out; omega
      obtain ⟨ad', hA', hcg⟩ := Kd.at_int HCg.out last hl0 hlm
      obtain rfl : ad = ad' := by injection hA'
      obtain ⟨i0, hi0, _, hsz, _⟩ := info_parts info26
      obtain ⟨hcut, hA2, hC2⟩ := print_take_of (P := Try.prog) (Value.int .u32) 0 27 26 .i64 Try.underlying27 hi0 hsz (some ad) c' R last hl0 hlm2 (by rw [HRl.out]; exact HC'.out)
      have hCq : Kd.C (Kd.int .u32) wg (some ad) (R.take last.toNat).length (R.take last.toNat) := Kd.C_of_reads (h1 := fun _ => rfl) (hA2 _ (Kd.reads_of_C (by rw [HRl.out]; exact HCg.out)))
      rw [HRl.out, ← HQ.out] at hcut
      rw [← HQ.out] at hC2 hCq
      have HCG := Lib.hid hcg
      have HCQ := Lib.hid hCq
      have HC2 := Lib.hid hC2
      have hl0' := eq_true hl0
      have hlm' := eq_true hlm
      have LAST := Lib.hid hla2.out
      have hAb : RowKit.Hid ((ad.add last.toNat).block < w.heap.size) := by have := World.block_lt_of_cell? _ _ hcg; rw [HSZ.out] at this; exact this
      clear hA' hcg hi0 hsz hA2 hC2 hCq hl0 hlm hlm2
      have HO1 := Lib.hid (Kd.R_drew (Kd.R_far (p := ⟨w.heap.size, 0, none⟩) (Kd.R_types HO.out BK.out (by decide)) (fun _ hk => hk.2) (.int .i64 key)))
      have BK1 := Lib.hid (blk_drew (blk_put (cs' := #[.int .i64 key, .slice Av nv cv]) BK.out 0 (.int .i64 key) rfl))
      have HB1_ := Lib.hid (below_drew1 (below_set' (j := 0) (v := .int .i64 key) HB.out (Nat.le_refl w.heap.size)))
      clear HO BK HB hb0 hb1 hf0 hf1
      have HO := HO1
      have BK := BK1
      have HB := HB1_
      clear HO1 BK1 HB1_
      have HPC : RowKit.Hid ((wr.setCell ⟨w.heap.size, 0, none⟩ (.int .i64 key)).drew.cell? (ad.add last.toNat) = some (.int .u32 (rd R last))) := (HB.out.cell (by rw [← HSZ.out]; exact World.block_lt_of_cell? _ _ HCG.out)).trans HCG.out
      refine start_ (n := 15) (S := fun w' => w'.cell? ⟨w.heap.size, 0, none⟩ = some (.int .i64 key) ∧ w'.cell? ⟨w.heap.size, 1, none⟩ = some (.slice Av nv cv) ∧ w'.cell? (ad.add last.toNat) = some (.int .u32 (rd R last))) (ds := []) #[false, false, false, false, false, false, false, false, false, false, false, false, false, false, false] (by kernel_rfl) rfl rfl ⟨(blk_cell BK.out 0).trans rfl, (blk_cell BK.out 1).trans rfl, HPC.out⟩ (fun hHeld => ?_); refine with_tabW tab14 bits14 (fun HT_ HW_ => ?_)
      generalize (wr.setCell ⟨w.heap.size, 0, none⟩ (.int .i64 key)).drew = w34 at HO BK HB HPC hHeld ⊢
      refine pure_ (i := 1) (N := some 71) (v := ?_) (a' := ?_) #[false, true, false, false, false, false, false, false, false, false, false, false, false, false, false] rfl rfl (any_of HT_.out (by kernel_rfl)) (fun _ _ _ h => h) (Or.inl ⟨by rfl, ?_⟩) ?_ ?_
      rotate_left
      · intro w'
        go_simp
        with_reducible rfl
      rotate_left
      · simp only [Act.put, List.setIfInBounds_toArray, List.set_cons_zero, List.set_cons_succ, i64_w, i32_w]
        rfl
      refine pure_ (i := 2) (N := some 72) (v := ?_) (a' := ?_) #[false, true, true, false, false, false, false, false, false, false, false, false, false, false, false] rfl rfl (any_of HT_.out (by kernel_rfl)) (fun _ _ _ h => h) (Or.inl ⟨by rfl, ?_⟩) ?_ ?_
      rotate_left
      · intro w'
        go_simp
        with_reducible rfl
      rotate_left
      · simp only [Act.put, List.setIfInBounds_toArray, List.set_cons_zero, List.set_cons_succ, i64_w, i32_w]
        rfl
      refine pure_ (i := 3) (N := some 73) (v := ?_) (a' := ?_) #[false, true, true, true, false, false, false, false, false, false, false, false, false, false, false] rfl rfl (any_of HT_.out (by kernel_rfl)) (fun _ _ _ h => h) (Or.inl ⟨by rfl, ?_⟩) ?_ ?_
      rotate_left
      · intro w'
        go_simp
        with_reducible rfl
      rotate_left
      · simp only [Act.put, List.setIfInBounds_toArray, List.set_cons_zero, List.set_cons_succ, i64_w, i32_w]
        rfl
      refine pure_ (i := 5) (N := some 75) (v := ?_) (a' := ?_) #[false, true, true, true, false, true, false, false, false, false, false, false, false, false, false] rfl rfl (any_of HT_.out (by kernel_rfl)) (fun _ _ _ h => h) (Or.inl ⟨by rfl, ?_⟩) ?_ ?_
      rotate_left
      · intro w'
        go_simp
        with_reducible rfl
      rotate_left
      · simp only [Act.put, List.setIfInBounds_toArray, List.set_cons_zero, List.set_cons_succ, i64_w, i32_w]
        rfl
      refine pure_ (i := 6) (N := some 76) (v := ?_) (a' := ?_) #[false, true, true, true, false, true, true, false, false, false, false, false, false, false, false] rfl rfl (any_of HT_.out (by kernel_rfl)) (fun _ _ _ h => h) (Or.inl ⟨by rfl, ?_⟩) ?_ ?_
      rotate_left
      · intro w'
        go_simp
        with_reducible rfl
      rotate_left
      · simp only [Act.put, List.setIfInBounds_toArray, List.set_cons_zero, List.set_cons_succ, i64_w, i32_w]
        rfl
      refine pure_ (i := 7) (N := some 77) (v := ?_) (a' := ?_) #[false, true, true, true, false, true, true, true, false, false, false, false, false, false, false] rfl rfl (any_of HT_.out (by kernel_rfl)) (fun _ _ _ h => h) (Or.inl ⟨by rfl, ?_⟩) ?_ ?_
      rotate_left
      · intro w'
        go_simp
        with_reducible rfl
      rotate_left
      · simp only [Act.put, List.setIfInBounds_toArray, List.set_cons_zero, List.set_cons_succ, i64_w, i32_w]
        rfl
      refine take_ (i := 0) (N := some 70) (v := ?_) (a' := ?_) #[true, true, true, true, false, true, true, true, false, false, false, false, false, false, false] rfl rfl (take_ofW HT_.out HW_.out (by kernel_rfl)) (fun _ _ _ h => h) (Or.inl ⟨by rfl, ?_⟩) hHeld ?_ ?_
      rotate_left
      · rintro w' ⟨s0, s1, s2⟩
        go_simp
        with_reducible rfl
      rotate_left
      · simp only [Act.put, List.setIfInBounds_toArray, List.set_cons_zero, List.set_cons_succ, i64_w, i32_w]
        rfl
      refine take_ (i := 4) (N := some 74) (v := ?_) (a' := ?_) #[true, true, true, true, true, true, true, true, false, false, false, false, false, false, false] rfl rfl (take_ofW HT_.out HW_.out (by kernel_rfl)) (fun _ _ _ h => h) (Or.inl ⟨by rfl, ?_⟩) hHeld ?_ ?_
      rotate_left
      · rintro w' ⟨s0, s1, s2⟩
        go_simp
        with_reducible rfl
      rotate_left
      · simp only [Act.put, List.setIfInBounds_toArray, List.set_cons_zero, List.set_cons_succ, i64_w, i32_w]
        rfl
      refine one_ (i := 8) (N := some 78) #[true, true, true, true, true, true, true, true, true, false, false, false, false, false, false] rfl rfl (one_of HT_.out (by kernel_rfl)) (by decide) (fun K hK => ?_)
      refine goes_ Try.func25 (by kernel_rfl) rfl #[.slice (some ad) Q.length c'] (by rfl) rfl rfl (by (try simp only [List.map_toArray, List.map_cons, List.map_nil]); first | done | rfl) ?_
      refine (Words_any (some ad) c' Q w34 ?side1 ?side2).mono ?_
      (case side1 => exact Kd.C_below HCQ.out (by rw [HSZ.out]; exact HB.out))
      (case side2 => exact HC2.out)
      rintro e w21 ⟨rfl, hb2⟩
      refine ⟨_, rfl, ?_⟩
      have n0_ := Lib.hid (Kd.R_below HO.out hb2)
      have n1_ := Lib.hid (blk_below BK.out hb2)
      have n2_ := Lib.hid (HB.out.trans (hb2.mono (by have := HB.out.size; have := HSZ.out; omega)))
      clear HO BK HB HPC hb2
      have HO := n0_
      have BK := n1_
      have HB := n2_
      clear n0_ n1_ n2_
      refine hK.out _ _ ⟨(blk_cell BK.out 0).trans rfl, (blk_cell BK.out 1).trans rfl, (HB.out.cell (by rw [← HSZ.out]; exact World.block_lt_of_cell? _ _ HCG.out)).trans HCG.out⟩ (fun hHeld => ?_)
      clear hK K
      refine norm_ (a' := ?_) ?_ ?_
      rotate_left
      · show Act.put _ (some 78) _ = _
        simp only [Act.put, List.setIfInBounds_toArray, List.set_cons_zero, List.set_cons_succ, i64_w, i32_w]
        rfl
      refine pure_ (i := 9) (N := some 79) (v := ?_) (a' := ?_) #[true, true, true, true, true, true, true, true, true, true, false, false, false, false, false] rfl rfl (any_of HT_.out (by kernel_rfl)) (fun _ _ _ h => h) (Or.inl ⟨by rfl, ?_⟩) ?_ ?_
      rotate_left
      · intro w'
        go_simp
        with_reducible rfl
      rotate_left
      · simp only [Act.put, List.setIfInBounds_toArray, List.set_cons_zero, List.set_cons_succ, i64_w, i32_w]
        rfl
      refine pure_ (i := 10) (N := some 80) (v := ?_) (a' := ?_) #[true, true, true, true, true, true, true, true, true, true, true, false, false, false, false] rfl rfl (any_of HT_.out (by kernel_rfl)) (fun _ _ _ h => h) (Or.inl ⟨by rfl, ?_⟩) ?_ ?_
      rotate_left
      · intro w'
        go_simp
        with_reducible rfl
      rotate_left
      · simp only [Act.put, List.setIfInBounds_toArray, List.set_cons_zero, List.set_cons_succ, i64_w, i32_w]
        rfl
      refine pure_ (i := 11) (N := some 81) (v := ?_) (a' := ?_) #[true, true, true, true, true, true, true, true, true, true, true, true, false, false, false] rfl rfl (any_of HT_.out (by kernel_rfl)) (fun _ _ _ h => h) (Or.inl ⟨by rfl, ?_⟩) ?_ ?_
      rotate_left
      · intro w'
        go_simp
        with_reducible rfl
      rotate_left
      · simp only [Act.put, List.setIfInBounds_toArray, List.set_cons_zero, List.set_cons_succ, i64_w, i32_w]
        rfl
      refine one_ (i := 12) (N := none) #[true, true, true, true, true, true, true, true, true, true, true, true, true, false, false] rfl rfl (one_of HT_.out (by kernel_rfl)) (by decide) (fun K hK => ?_)
      have hs0 : w21.cell? ⟨w.heap.size, 0, none⟩ = some (.int .i64 key) := (blk_cell BK.out 0).trans rfl
      have hs1 : w21.cell? ⟨w.heap.size, 1, none⟩ = some (.slice Av nv cv) := (blk_cell BK.out 1).trans rfl
      have hfs0 := blk_frozen BK.out 0
      have hfs1 := blk_frozen BK.out 1
      refine skip_ (w1 := ?_) (by rfl) rfl ?_ ?_
      rotate_left
      · go_simp
        rfl
      refine hK.out _ _ ⟨(blk_cell (blk_put (blk_put (cs' := #[.int .i64 key, .slice Av nv cv]) BK.out 0 _ rfl) (cs' := #[.int .i64 key, .slice Av nv cv]) 1 _ rfl) 0).trans rfl, (blk_cell (blk_put (blk_put (cs' := #[.int .i64 key, .slice Av nv cv]) BK.out 0 _ rfl) (cs' := #[.int .i64 key, .slice Av nv cv]) 1 _ rfl) 1).trans rfl, (cell_far (Nat.ne_of_lt hAb.out) _).trans ((cell_far (Nat.ne_of_lt hAb.out) _).trans hHeld.2.2)⟩ (fun hHeld => ?_)
      clear hK K
      refine pure_ (i := 13) (N := some 5) (v := ?_) (a' := ?_) #[true, true, true, true, true, true, true, true, true, true, true, true, true, true, false] rfl rfl (any_of HT_.out (by kernel_rfl)) (fun _ _ _ h => h) (Or.inl ⟨by rfl, ?_⟩) ?_ ?_
      rotate_left
      · intro w'
        go_simp
        with_reducible rfl
      rotate_left
      · simp only [Act.put, List.setIfInBounds_toArray, List.set_cons_zero, List.set_cons_succ, i64_w, i32_w]
        rfl
      refine pure_ (i := 14) (N := some 6) (v := ?_) (a' := ?_) #[true, true, true, true, true, true, true, true, true, true, true, true, true, true, true] rfl rfl (any_of HT_.out (by kernel_rfl)) (fun _ _ _ h => h) (Or.inl ⟨by rfl, ?_⟩) ?_ ?_
      rotate_left
      · intro w'
        go_simp
        with_reducible rfl
      rotate_left
      · simp only [Act.put, List.setIfInBounds_toArray, List.set_cons_zero, List.set_cons_succ, i64_w, i32_w]
        rfl
      refine done_ (done_of HT_.out (by kernel_rfl)) ?_
      go_wp2
      refine bodyPost_ret (v := .tuple #[.agg #[.int .i64 key, .slice Av nv cv], .bool (rd R last == IntKind.u32.wrap (1124073472 + IntKind.u32.wrap (sumW Q Q.length))), .bool true]) ?_ rfl ⟨.slice Av nv cv, ?_, ?_, ?_⟩
      · exact results_cell_two (fn := Try.f26) (p := 4) (q := 5) (r := 6) (ty := 25) rfl _ _ w.heap.size 25 #[.int .i64 key, .slice Av nv cv] (0, 0) _ rfl (blk_put (blk_put (cs' := #[.int .i64 key, .slice Av nv cv]) BK.out 0 _ rfl) (cs' := #[.int .i64 key, .slice Av nv cv]) 1 _ rfl) Try.underlying25 rfl (by kernel_rfl)
      · rw [wrap_u32, wrap_u32]
      · have h1 := Kd.R_types HO.out BK.out (by decide)
        rw [Int.toNat_natCast, ← hk2]
        exact Kd.R_mono (Kd.R_far (p := ⟨w.heap.size, 1, none⟩) (Kd.R_far (p := ⟨w.heap.size, 0, none⟩) h1 (fun _ hk => hk.2) _) (fun _ hk => hk.2) _) (fun _ _ => trivial)
      · exact below_set' (below_set' HB.out (Nat.le_refl _)) (Nat.le_refl _)
end Go.Proofs.Ytbleapgklbohcaa.Lg
