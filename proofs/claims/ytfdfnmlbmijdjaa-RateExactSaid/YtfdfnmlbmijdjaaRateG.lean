/-
  Walks of package rate: slices.Delete of one entry.
  No conditions.
-/
import Derived.Test.YtfdfnmlbmijdjaaRateE
namespace Go.Proofs.Ytfdfnmlbmijdjaa.Rt
open Go.RowKit Go.Lib Go.Proofs.YtfdfnmlbmijdjaaW.PrintWords Go.Proofs.YtfdfnmlbmijdjaaW.PrintLast Go.Proofs.YtfdfnmlbmijdjaaW.PrintMore
set_option linter.unusedVariables false
set_option linter.unusedSimpArgs false
theorem step_append_runI {P : Program} {ops : Array Oper} {o : Oper} {a : Act} {w : World} {K : Act → World → Prop} {Q : Exit → Act → World → Prop} {E : Prop}
    (hg : o.guard = none) (d x : Operand) (dT sT : TypeId) (hop : o.op = Op.call { callee := Callee.builtin Builtin.append, args := #[d, x], argTypes := #[dT, sT] })
    (v u : Value) (hd : a.eval d = v) (hx : a.eval x = u) {v' : Value} {w' : World} (hr : (Builtin.append_ #[dT, sT] o.type #[v, u]).run P w = .ok v' w') (hK : K (a.put o.dst v') w') :
    if Region.wanted o (yielded ops a.tmps) = true then Oper.wp P o a w K Q else E := by
  have hw : Region.wanted o (yielded ops a.tmps) = true := by simp [Region.wanted, hg]
  rw [if_pos hw]
  unfold Oper.wp
  simp [execOp, hop, resolve, invoke, builtin, hd, hx, hr, Result.andThen]
  exact hK
theorem wpList_clear_runI {P : Program} (w : World) {ops : Array Oper} {rest : List Oper} {o : Oper} {a : Act} {Q : Exit → Act → World → Prop} (hgd : o.guard = none) (s : Operand) (t : TypeId)
    (ho : o.op = .call { callee := .builtin .clear, args := #[s], argTypes := #[t] }) (v : Value) (hs : a.eval s = v) {v' : Value} {w' : World}
    (hr : (Builtin.clear_ #[t] o.type #[v]).run P w = .ok v' w') (h : wpList P ops Q rest (a.put o.dst v') w') : wpList P ops Q (o :: rest) a w :=
  wpList_plain hgd fun _ hK => by
    unfold Oper.wp execOp
    simp only [ho, resolve, invoke, builtin, Sem.run_bind, Sem.run_pure, Result.andThen_ok, List.map_toArray, List.map_cons, List.map_nil, hs, hr]
    exact hK _ _ h
theorem zero_row : (Builtin.zeroCells (encV ⟨0, 0, 0, 0, 0, 0, 0⟩).cells 1).toList = enc ⟨0, 0, 0, 0, 0, 0, 0⟩ := by kernel_rfl
theorem lay_del (cur : List Value) (E : List Ent) (i n cap : Nat) (hn : n = E.length) (hi : i < n) (hc : n ≤ cap) (hs : cur.length = cap * 7) (ht : cur.take (n * 7) = flat E) (Z a1 a2 : List Value) (hZ : Z.length = 7) (h1 : a1 = cur.take (i * 7) ++ flat (E.drop (i + 1)) ++ cur.drop (i * 7 + (flat (E.drop (i + 1))).length)) (h2 : a2 = a1.take ((n - 1) * 7) ++ Z ++ a1.drop ((n - 1) * 7 + Z.length)) : a2.length = cap * 7 ∧ a2.take ((n - 1) * 7) = flat (E.take i ++ E.drop (i + 1)) ∧ a1.length = cap * 7 := by
  have hfl : (flat (E.drop (i + 1))).length = (n - (i + 1)) * 7 := by rw [flat_len, List.length_drop, hn]
  have hl1 : a1.length = cap * 7 := by
    rw [h1]
    simp only [List.length_append, List.length_take, List.length_drop, hfl, hs]
    omega
  have hl2 : a2.length = cap * 7 := by
    rw [h2]
    simp only [List.length_append, List.length_take, List.length_drop, hZ, hl1]
    omega
  refine ⟨hl2, ?_, hl1⟩
  have e0 : cur.take (i * 7) = flat (E.take i) := by rw [← flat_take, ← ht, List.take_take, Nat.min_eq_left (by omega)]
  have htl : (flat (E.take i)).length = i * 7 := by rw [flat_len, List.length_take]; omega
  have e1 : a1.take ((n - 1) * 7) = flat (E.take i ++ E.drop (i + 1)) := by
    rw [h1, e0, flat_app, List.take_append_of_le_length (by simp only [List.length_append, hfl, htl]; omega), List.take_of_length_le (by simp only [List.length_append, hfl, htl]; omega)]
  rw [h2, List.append_assoc, List.take_append_of_le_length (by rw [List.length_take]; omega), List.take_take, Nat.min_self]
  exact e1
set_option maxHeartbeats 8000000 in
set_option maxRecDepth 100000 in
theorem delete_ (E : List Ent) (i : Nat) (v : Value) (W : World) (base : Nat) (hi : i < E.length) (hown : W.ownsRow base 77 7 v E.length (flat E)) : Calls Try.prog 46 #[v, .int .i64 (i : Nat), .int .i64 ((i : Int) + 1)] W fun e w' => ∃ v', e = .returned v' ∧ w'.ownsRow base 77 7 v' (E.length - 1) (flat (E.take i ++ E.drop (i + 1))) ∧ W.grownBy w' v.ownBlock := by
  rcases hown.2 with ⟨rfl, h0⟩ | ⟨b, cap, cur, rfl, hbb, hb, hnc, hcm, hcs, ht⟩
  · omega
  obtain ⟨i0, hi0, hz0, hs0, hb0⟩ := info77'
  obtain ⟨n, hn⟩ : ∃ n, n = E.length := ⟨_, rfl⟩
  obtain ⟨Z, hZ⟩ : ∃ Z : List Value, Z = (Builtin.zeroCells (encV ⟨0, 0, 0, 0, 0, 0, 0⟩).cells 1).toList := ⟨_, rfl⟩
  have hZ7 : Z.length = 7 := by rw [hZ, Array.length_toList, size_zeroCells]; rfl
  have hZ1 : ∀ u ∈ Z, u.oneCell' = true := by
    intro u hu
    have e : Z = enc ⟨0, 0, 0, 0, 0, 0, 0⟩ := by rw [hZ]; exact zero_row
    rw [e] at hu
    exact flat_one [⟨0, 0, 0, 0, 0, 0, 0⟩] u (by simpa [flat] using hu)
  obtain ⟨a1, h1⟩ : ∃ a1 : List Value, a1 = cur.toList.take (i * 7) ++ flat (E.drop (i + 1)) ++ cur.toList.drop (i * 7 + (flat (E.drop (i + 1))).length) := ⟨_, rfl⟩
  obtain ⟨a2, h2⟩ : ∃ a2 : List Value, a2 = a1.take ((n - 1) * 7) ++ Z ++ a1.drop ((n - 1) * 7 + Z.length) := ⟨_, rfl⟩
  obtain ⟨hl2, htk, hl1⟩ := lay_del cur.toList E i n cap hn (by omega) (by omega) (by simpa using hcs) (by rw [hn]; exact ht) Z a1 a2 hZ7 h1 h2
  have hfl : (flat (E.drop (i + 1))).length = (n - (i + 1)) * 7 := by rw [flat_len, List.length_drop, hn]
  rw [← hn] at hi hnc ht ⊢
  obtain ⟨W1, hW1⟩ : ∃ W1 : World, W1 = W.drew.setRow b a1.toArray := ⟨_, rfl⟩
  have hb1 : W1.heap[b]? = some (.cells a1.toArray 77 (0, 0)) := by rw [hW1]; exact setRow_heap W.drew b cur _ 77 (0, 0) hb
  have happ : ∀ ty (A : Addr) c, (n - (i + 1) = 0 ∨ A = ⟨b, (i + 1) * 7, none⟩) → (Builtin.append_ #[61, 61] ty #[.slice (some ⟨b, 0, none⟩) i cap, .slice (some A) (n - (i + 1)) c]).run Try.prog W.drew = .ok (.slice (some ⟨b, 0, none⟩) (n - 1) cap) W1 := fun ty A c hA => by
    have h := run_append_room (P := Try.prog) W.drew 61 ty 77 i0 u61 hi0 b i cap cur hb A (n - (i + 1)) c (flat (E.drop (i + 1))) (by rw [hs0, hfl]) (fun j u hj => by
      rcases hA with h0 | rfl
      · have : (flat (E.drop (i + 1))).length = 0 := by rw [hfl, h0]
        rw [List.eq_nil_of_length_eq_zero this] at hj
        simp at hj
      · exact row_cells (w := W.drew) hb ht ((i + 1) * 7) j u (by rw [flat_drop]; exact hj)) (flat_one _) (by omega) (by rw [hs0, hfl, hcs]; omega)
    rw [hs0] at h
    rw [h, hW1, h1, show i + (n - (i + 1)) = n - 1 by omega]
  obtain ⟨W2, hW2⟩ : ∃ W2 : World, W2 = W1.setRow b a2.toArray := ⟨_, rfl⟩
  have hclr : ∀ ty c, (Builtin.clear_ #[61] ty #[.slice (some ⟨b, (n - 1) * 7, none⟩) 1 c]).run Try.prog W1 = .ok (.tuple #[]) W2 := fun ty c => by
    have hst := run_storeCells_at Try.prog b ((n - 1) * 7) 77 Z 0 a1.toArray W1 hb1 (by simp [hZ7, hl1]; omega) hZ1
    simp only [Nat.add_zero] at hst
    have hzv : (zeroValue 77).run Try.prog W1 = .ok (encV ⟨0, 0, 0, 0, 0, 0, 0⟩) W1 := by simp [zeroValue, typeInfo, hi0, hz0]
    rw [hW2, show a2.toArray = (a1.toArray.toList.take ((n - 1) * 7) ++ Z ++ a1.toArray.toList.drop ((n - 1) * 7 + Z.length)).toArray by rw [h2]]
    simp [Builtin.clear_, run_underlying u61, hzv, ← hZ, hst]
  have FIN : RowKit.Hid (W2.ownsRow base 77 7 (.slice (some ⟨b, 0, none⟩) (n - 1) cap) (n - 1) (flat (E.take i ++ E.drop (i + 1))) ∧ W.grownBy W2 (some b)) := by
    refine ⟨⟨?_, .inr ⟨b, cap, a2.toArray, rfl, hbb, ?_, by omega, hcm, by simpa using hl2, ?_⟩⟩, ?_⟩
    · rw [flat_len, List.length_append, List.length_take, List.length_drop]; omega
    · rw [hW2]; exact setRow_heap W1 b a1.toArray _ 77 (0, 0) hb1
    · exact htk
    · rw [hW2, hW1]
      refine ⟨rfl, rfl, rfl, by simp [World.setRow], fun k hk hkb => ?_⟩
      have hkb' : k ≠ b := fun e => hkb (by rw [e])
      exact (setRow_other _ b k _ hkb').trans (setRow_other _ b k _ hkb')
  show Calls _ _ _ _ fun e w' => ∃ v', e = .returned v' ∧ w'.ownsRow base 77 7 v' (n - 1) (flat (E.take i ++ E.drop (i + 1))) ∧ W.grownBy w' (some b)
  obtain ⟨m, hm⟩ : ∃ m, n = m + 1 := ⟨n - 1, by omega⟩
  subst hm
  simp only [Nat.add_sub_cancel] at happ hclr FIN ⊢
  rw [show m + 1 - (i + 1) = m - i by omega] at happ
  have HAP := Lib.hid happ
  have HCL := Lib.hid hclr
  have q1 : (i : Int) + 1 ≤ ((m + 1 : Nat) : Int) := by omega
  have q2 : (0 : Int) ≤ (i : Int) + 1 := by omega
  have q3 : ((i : Int) + 1).toNat = i + 1 := by omega
  have q4 : (i : Int) ≤ (i : Int) + 1 := by omega
  have q5 : ¬ ((i : Int) = (i : Int) + 1) := by omega
  have q6 : ((m + 1 : Nat) : Int) ≤ (cap : Int) := by omega
  have q7 : (i : Int) ≤ ((m + 1 : Nat) : Int) := by omega
  have q8 : (m : Int) ≤ ((m + 1 : Nat) : Int) := by omega
  have mixed : Try.prog.follows Departure.mixedOrders = true := by kernel_rfl
  clear happ hclr hb1 hW1 hW2 hl2 htk hl1 h1 h2 hfl hb hcs ht hn hi0 hz0 hs0 hb0 hZ hZ7 hZ1 hown
  unfold maxLen at hcm
  go_enter Try.func46, Try.ntmps46
  go_wp2_with fail
  have q9 : ¬ (cap = m) := by omega
  have q13 : i ≤ cap := by omega
  have q14 : m ≤ cap := by omega
  have q15 : i + 1 ≤ cap := by omega
  have q10 : (m : Int) ≤ (cap : Int) := by omega
  have q11 : (m : Int) + 1 ≤ (cap : Int) := by omega
  have q12 : (i : Int) + 1 ≤ (m : Int) + 1 := by omega
  by_cases hcj : cap = i + 1
  · obtain rfl : m = i := by omega
    subst hcj
    go_region_law_o (refine step_append_runI rfl _ _ 61 61 rfl (.slice (some ⟨b, 0, none⟩) m (m + 1)) (.slice (some ⟨b, 0, none⟩) 0 0) (by simp [Act.eval, Act.put]) (by simp [Act.eval, Act.put]) (by have h := HAP.out 3 ⟨b, 0, none⟩ 0 (.inl (by omega)); rw [Nat.sub_self] at h; exact h) ?_)
    go_wp2_with (refine wpList_clear_runI _ rfl _ 61 rfl (.slice (some ⟨b, m * 7, none⟩) 1 1) rfl (HCL.out _ _) ?_)
    go_ret
    exact ⟨_, rfl, FIN.out.1, FIN.out.2⟩
  · go_region_law_o (refine step_append_runI rfl _ _ 61 61 rfl (.slice (some ⟨b, 0, none⟩) i cap) (.slice (some ⟨b, (i + 1) * 7, none⟩) (m - i) (cap - (i + 1))) (by simp [Act.eval, Act.put]) (by simp [Act.eval, Act.put]) (HAP.out _ _ _ (.inr rfl)) ?_)
    go_wp2_with (refine wpList_clear_runI _ rfl _ 61 rfl (.slice (some ⟨b, m * 7, none⟩) 1 (cap - m)) rfl (HCL.out _ _) ?_)
    go_ret
    exact ⟨_, rfl, FIN.out.1, FIN.out.2⟩
end Go.Proofs.Ytfdfnmlbmijdjaa.Rt
