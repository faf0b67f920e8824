/-
  Walks of package rate: slices.Insert of one entry where a new row is made; the whole of it.
  No conditions.
-/
import Derived.Test.YtfdfnmlbmijdjaaRateE
namespace Go.Proofs.Ytfdfnmlbmijdjaa.Rt
open Go.RowKit Go.Lib Go.Proofs.YtfdfnmlbmijdjaaW.PrintWords Go.Proofs.YtfdfnmlbmijdjaaW.PrintLast Go.Proofs.YtfdfnmlbmijdjaaW.PrintMore
set_option linter.unusedVariables false
set_option linter.unusedSimpArgs false
theorem lay_new (a0 : List Value) (E : List Ent) (x : Ent) (i n cap : Nat) (hn : n = E.length) (hi : i < n) (hc : n + 1 ≤ cap) (hs : a0.length = cap * 7) (ht : a0.take (i * 7) = flat (E.take i)) (a1 a2 : List Value) (h1 : a1 = a0.take (i * 7) ++ enc x ++ a0.drop (i * 7 + (enc x).length)) (h2 : a2 = a1.take ((i + 1) * 7) ++ flat (E.drop i) ++ a1.drop ((i + 1) * 7 + (flat (E.drop i)).length)) : a2.length = cap * 7 ∧ a2.take ((n + 1) * 7) = flat (E.take i ++ x :: E.drop i) ∧ a1.length = cap * 7 := by
  have hfl : (flat (E.drop i)).length = (n - i) * 7 := by rw [flat_len, List.length_drop, hn]
  have htl : (flat (E.take i)).length = i * 7 := by rw [flat_len, List.length_take]; omega
  have hl1 : a1.length = cap * 7 := by
    rw [h1]
    simp only [List.length_append, List.length_take, List.length_drop, enc_len, hs]
    omega
  have hl2 : a2.length = cap * 7 := by
    rw [h2]
    simp only [List.length_append, List.length_take, List.length_drop, hfl, hl1]
    omega
  refine ⟨hl2, ?_, hl1⟩
  have e1 : a1.take ((i + 1) * 7) = flat (E.take i) ++ enc x := by
    rw [h1, ht, List.take_append_of_le_length (by simp only [List.length_append, enc_len, htl]; omega), List.take_of_length_le (by simp only [List.length_append, enc_len, htl]; omega)]
  rw [h2, e1]
  have e3 : flat (E.take i ++ x :: E.drop i) = flat (E.take i) ++ enc x ++ flat (E.drop i) := by
    rw [flat_app]
    simp [flat]
  rw [e3, List.take_append_of_le_length (by simp only [List.length_append, hfl, enc_len, htl]; omega), List.take_of_length_le (by simp only [List.length_append, hfl, enc_len, htl]; omega)]
set_option maxHeartbeats 8000000 in
set_option maxRecDepth 100000 in
theorem insert_grow (E : List Ent) (x : Ent) (i b cap vb : Nat) (cur : Array Value) (W : World) (base : Nat) (hi : i < E.length) (hbase : base ≤ W.heap.size) (hb : W.heap[b]? = some (.cells cur 77 (0, 0))) (hnc : E.length ≤ cap) (hcap : cap < E.length + 1) (hsz : E.length < 1099511627776) (hcs : cur.size = cap * 7) (ht : cur.toList.take (E.length * 7) = flat E) (hv : W.heap[vb]? = some (.cells (enc x).toArray 77 (0, 0))) : Calls Try.prog 45 #[.slice (some ⟨b, 0, none⟩) E.length cap, .int .i64 (i : Nat), .slice (some ⟨vb, 0, none⟩) 1 1] W fun e w' => ∃ v', e = .returned v' ∧ w'.ownsRow base 77 7 v' (E.length + 1) (flat (E.take i ++ x :: E.drop i)) ∧ W.grownBy w' (some b) := by
  have hsi : (Try.prog.info? 77).map (·.size) = some 7 := by
    obtain ⟨i, hi, hz, hs, hb⟩ := info77'
    rw [hi]; simp [hs]
  have u3 : Try.prog.underlying 3 = some (.int .i64) := by kernel_rfl
  obtain ⟨i0, hi0, hz0, hs0, hb0⟩ := info77'
  obtain ⟨n, hn⟩ : ∃ n, n = E.length := ⟨_, rfl⟩
  rw [← hn] at hi hcap hsz ht hnc ⊢
  obtain rfl : cap = n := by omega
  obtain ⟨G, hG⟩ : ∃ G, G = grownCap W (cap + 1) cap 77 := ⟨_, rfl⟩
  obtain ⟨a0, h0⟩ : ∃ a0 : List Value, a0 = flat (E.take i) ++ (Builtin.zeroCells (encV ⟨0, 0, 0, 0, 0, 0, 0⟩).cells (cap + 1 - i)).toList ++ (Builtin.zeroCells (encV ⟨0, 0, 0, 0, 0, 0, 0⟩).cells (G - (cap + 1))).toList := ⟨_, rfl⟩
  obtain ⟨a1, h1⟩ : ∃ a1 : List Value, a1 = a0.take (i * 7) ++ enc x ++ a0.drop (i * 7 + (enc x).length) := ⟨_, rfl⟩
  obtain ⟨a2, h2⟩ : ∃ a2 : List Value, a2 = a1.take ((i + 1) * 7) ++ flat (E.drop i) ++ a1.drop ((i + 1) * 7 + (flat (E.drop i)).length) := ⟨_, rfl⟩
  have hge : cap + 1 ≤ G := by rw [hG]; exact grownCap_ge W _ _ _
  have hGm : G ≤ maxLen := by rw [hG]; exact grownCap_le_maxLen W _ _ _ (by unfold maxLen; omega)
  have htl : (flat (E.take i)).length = i * 7 := by rw [flat_len, List.length_take]; omega
  have hl0 : a0.length = G * 7 := by
    rw [h0]
    simp only [List.length_append, Array.length_toList, size_zeroCells, htl]
    rw [show (encV ⟨0, 0, 0, 0, 0, 0, 0⟩).cells.size = 7 from rfl]
    omega
  have ht0 : a0.take (i * 7) = flat (E.take i) := by
    rw [h0, List.append_assoc, List.take_append_of_le_length (by rw [htl]; exact Nat.le_refl _), List.take_of_length_le (by rw [htl]; exact Nat.le_refl _)]
  obtain ⟨hl2, htk, hl1⟩ := lay_new a0 E x i cap G hn (by omega) hge hl0 ht0 a1 a2 h1 h2
  have hfl : (flat (E.drop i)).length = (cap - i) * 7 := by rw [flat_len, List.length_drop, hn]
  have hbw : b < W.heap.size := blk_lt hb
  have hvw : vb < W.heap.size := blk_lt hv
  obtain ⟨W0, hW0⟩ : ∃ W0 : World, W0 = W.drew.alloc (.cells a0.toArray 77) := ⟨_, rfl⟩
  have hrz : ∀ ty, (Builtin.append_ #[61, 3] ty #[.slice (some ⟨b, 0, none⟩) i cap, .int .i64 ((cap : Int) + 1 - (i : Int))]).run Try.prog W = .ok (.slice (some ⟨W.heap.size, 0, none⟩) (cap + 1) G) W0 := fun ty => by
    have hold : (Builtin.firstCells i0.size i (.slice (some ⟨b, 0, none⟩) i cap)).run Try.prog W.drew = .ok (flat (E.take i)).toArray W.drew := by
      rw [hs0]
      refine run_firstCells_some W.drew 7 i ⟨b, 0, none⟩ i cap (flat (E.take i)) htl (fun j u hj => ?_)
      refine row_cells (w := W.drew) hb ht 0 j u ?_
      rw [List.drop_zero]
      rw [← flat_take, List.getElem?_take] at hj
      split at hj
      · exact hj
      · cases hj
    have h := Lib.run_append_grow_zeros W 61 3 ty 77 i0 _ .i64 .i64 u61 u3 hi0 hz0 (some ⟨b, 0, none⟩) i cap (flat (E.take i)) hold (cap + 1 - i) (by omega) (by omega) (by omega) (by omega) (by rw [hb0]; omega) (by rw [hb0, show i + (cap + 1 - i) = cap + 1 by omega]; exact growslice_fits (by omega) (by omega))
    rw [show i + (cap + 1 - i) = cap + 1 by omega, ← hG] at h
    rw [show (cap : Int) + 1 - (i : Int) = ((cap + 1 - i : Nat) : Int) by omega, h, hW0]
    refine congrArg (fun q => Result.ok _ (W.drew.alloc (.cells q _))) ?_
    rw [h0]
    apply Array.ext'
    simp
  have hN0 : W0.heap[W.heap.size]? = some (.cells a0.toArray 77 (0, 0)) := by rw [hW0]; exact blk_new W.drew _
  have hv0 : W0.heap[vb]? = some (.cells (enc x).toArray 77 (0, 0)) := by rw [hW0]; exact (((Below.refl W.heap.size W.drew).alloc (Nat.le_refl _) _).block vb hvw).trans hv
  have hb0' : W0.heap[b]? = some (.cells cur 77 (0, 0)) := by rw [hW0]; exact (((Below.refl W.heap.size W.drew).alloc (Nat.le_refl _) _).block b hbw).trans hb
  obtain ⟨W1, hW1⟩ : ∃ W1 : World, W1 = W0.setRow W.heap.size a1.toArray := ⟨_, rfl⟩
  have hN1 : W1.heap[W.heap.size]? = some (.cells a1.toArray 77 (0, 0)) := by rw [hW1]; exact setRow_heap W0 _ _ _ 77 (0, 0) hN0
  have hb1' : W1.heap[b]? = some (.cells cur 77 (0, 0)) := by rw [hW1]; exact (setRow_other W0 _ b _ (by omega)).trans hb0'
  have hcpA : ∀ ty dc, (Builtin.copy_ #[61, 61] ty #[.slice (some ⟨W.heap.size, i * 7, none⟩) (cap + 1 - i) dc, .slice (some ⟨vb, 0, none⟩) 1 1]).run Try.prog W0 = .ok (goInt ((1 : Nat) : Int)) W1 := fun ty dc => by
    have hmin : Nat.min 1 (cap + 1 - i) = 1 := by simp only [Nat.min_def]; split <;> omega
    rw [copy_cells W0 61 61 ty 77 7 W.heap.size (i * 7) (cap + 1 - i) dc ⟨vb, 0, none⟩ 1 1 a0.toArray 77 (enc x) u61 hsi hN0 (by rw [hmin, enc_len]) (cells_of_row hv0) (by rw [enc_len]; simp [hl0]; omega) (fun u hu => flat_one [x] u (by simpa [flat] using hu)), hmin, hW1]
    rw [show ((a0.toArray.toList.take (i * 7) ++ enc x ++ a0.toArray.toList.drop (i * 7 + (enc x).length)).toArray) = a1.toArray by rw [h1]]
  obtain ⟨W2, hW2⟩ : ∃ W2 : World, W2 = W1.drew.setRow W.heap.size a2.toArray := ⟨_, rfl⟩
  have hcpB : ∀ ty dc sc, (Builtin.copy_ #[61, 61] ty #[.slice (some ⟨W.heap.size, (i + 1) * 7, none⟩) (cap - i) dc, .slice (some ⟨b, i * 7, none⟩) (cap - i) sc]).run Try.prog W1.drew = .ok (goInt ((cap - i : Nat) : Int)) W2 := fun ty dc sc => by
    have hmin : Nat.min (cap - i) (cap - i) = cap - i := by simp only [Nat.min_def]; split <;> omega
    rw [copy_cells W1.drew 61 61 ty 77 7 W.heap.size ((i + 1) * 7) (cap - i) dc ⟨b, i * 7, none⟩ (cap - i) sc a1.toArray 77 (flat (E.drop i)) u61 hsi hN1 (by rw [hmin, hfl]) (by rw [← flat_drop]; exact row_cells (w := W1.drew) hb1' ht (i * 7)) (by rw [hfl]; simp [hl1]; omega) (flat_one _), hmin, hW2]
    rw [show ((a1.toArray.toList.take ((i + 1) * 7) ++ flat (E.drop i) ++ a1.toArray.toList.drop ((i + 1) * 7 + (flat (E.drop i)).length)).toArray) = a2.toArray by rw [h2]]
  have FIN : RowKit.Hid (W2.ownsRow base 77 7 (.slice (some ⟨W.heap.size, 0, none⟩) (cap + 1) G) (cap + 1) (flat (E.take i ++ x :: E.drop i)) ∧ W.grownBy W2 (some b)) := by
    refine ⟨⟨?_, .inr ⟨W.heap.size, G, a2.toArray, rfl, hbase, ?_, hge, hGm, by simpa using hl2, ?_⟩⟩, ?_⟩
    · rw [flat_len, List.length_append, List.length_cons, List.length_take, List.length_drop]; omega
    · rw [hW2]; exact setRow_heap W1.drew _ _ _ 77 (0, 0) hN1
    · exact htk
    · rw [hW2, hW1, hW0]
      refine ⟨rfl, rfl, rfl, by simp [World.setRow], fun k hk _ => ?_⟩
      have hk' : k ≠ W.heap.size := by omega
      exact ((setRow_other _ _ k _ hk').trans (setRow_other _ _ k _ hk')).trans (((Below.refl W.heap.size W.drew).alloc (Nat.le_refl _) _).block k hk)
  have hbN : b ≠ W.heap.size := by omega
  have HRZ := Lib.hid hrz
  have HCA := Lib.hid hcpA
  have HCB := Lib.hid hcpB
  obtain ⟨N, hN⟩ : ∃ N, N = W.heap.size := ⟨_, rfl⟩
  rw [← hN] at HRZ HCA HCB FIN
  have hin : (i : Int) < (cap : Int) := by omega
  have hw1 : IntKind.i64.wrap ((i : Int) + 1) = (i : Int) + 1 := by rw [IntKind.wrap_i64]; omega
  have hz2 : ¬ ((i : Int) = (cap : Int)) := by omega
  have hb1'' : (0 : Int) ≤ (i : Int) + 1 := by omega
  have htn : ((i : Int) + 1).toNat = i + 1 := by omega
  have hb2 : ¬ (G = i + 1) := by omega
  have hb3 : (i : Int) ≤ (cap : Int) + 1 := by omega
  have hb4 : ¬ (cap = i) := by omega
  have hb5 : (i : Int) ≤ (cap : Int) := by omega
  have hb6 : ¬ (G = i) := by omega
  have hb7 : (cap : Int) + 1 ≤ (G : Int) := by omega
  have hGm' : G ≤ 9223372036854775807 := by unfold maxLen at hGm; omega
  clear hrz hcpA hcpB hN0 hv0 hb0' hN1 hb1' hW0 hW1 hW2 hl2 htk hl1 hl0 ht0 h0 h1 h2 hfl htl hb hv hcs ht hn hG hN hi0 hz0 hs0 hb0 hbw hvw hbN hnc hcap
  have mixed : Try.prog.follows Departure.mixedOrders = true := by kernel_rfl
  go_enter Try.func45, Try.ntmps45
  go_wp2_with (first
    | (at_builtin; refine Lib.wpList_append_run _ rfl _ _ 61 3 rfl (.slice (some ⟨b, 0, none⟩) i cap) (.int .i64 ((cap : Int) + 1 - (i : Int))) rfl rfl _ _ (HRZ.out _) ?_)
    | (refine wpList_copy_runI _ rfl _ _ 61 61 rfl (.slice (some ⟨N, i * 7, none⟩) (cap + 1 - i) (G - i)) (.slice (some ⟨vb, 0, none⟩) 1 1) rfl rfl (HCA.out _ _) ?_))
  go_region_law_o (refine step_copy_runI rfl _ _ 61 61 rfl (.slice (some ⟨N, (i + 1) * 7, none⟩) (cap - i) (G - (i + 1))) (.slice (some ⟨b, i * 7, none⟩) (cap - i) (cap - i)) (by simp [Act.eval, Act.put]) (by simp [Act.eval, Act.put]) (HCB.out _ _ _) ?_)
  go_wp2
  go_ret
  exact ⟨_, rfl, FIN.out.1, FIN.out.2⟩
theorem insert_ (E : List Ent) (x : Ent) (i : Nat) (v : Value) (W : World) (base vb : Nat) (hi : i ≤ E.length) (hown : W.ownsRow base 77 7 v E.length (flat E)) (hv : W.heap[vb]? = some (.cells (enc x).toArray 77 (0, 0))) (hne : some vb ≠ v.ownBlock) (hbase : base ≤ W.heap.size) (hsz : E.length < 1099511627776) : Calls Try.prog 45 #[v, .int .i64 (i : Nat), .slice (some ⟨vb, 0, none⟩) 1 1] W fun e w' => ∃ v', e = .returned v' ∧ w'.ownsRow base 77 7 v' (E.length + 1) (flat (E.take i ++ x :: E.drop i)) ∧ W.grownBy w' v.ownBlock := by
  by_cases h : i = E.length
  · subst h
    rw [List.take_length, List.drop_length]
    exact insert_end E x v W base vb hown hv hbase hsz
  · rcases hown.2 with ⟨rfl, h0⟩ | ⟨g, cap, cur, rfl, hbb, hb, hnc, hcm, hcs, ht⟩
    · omega
    · by_cases hc : E.length + 1 ≤ cap
      · exact insert_room E x i g cap vb cur W base (by omega) hbb hb hc hcm hcs ht hv (fun e => hne (by rw [e]; rfl))
      · exact insert_grow E x i g cap vb cur W base (by omega) hbase hb hnc (by omega) hsz hcs ht hv
end Go.Proofs.Ytfdfnmlbmijdjaa.Rt
