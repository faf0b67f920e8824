/-
  Walks of package rate: slices.Insert of one entry ahead of others.
  No conditions.
-/
import Derived.Test.YtfdfnmlbmijdjaaRateD
namespace Go.Proofs.Ytfdfnmlbmijdjaa.Rt
open Go.RowKit Go.Lib Go.Proofs.YtfdfnmlbmijdjaaW.PrintWords Go.Proofs.YtfdfnmlbmijdjaaW.PrintLast Go.Proofs.YtfdfnmlbmijdjaaW.PrintMore
set_option linter.unusedVariables false
set_option linter.unusedSimpArgs false
theorem wp_copy_runI {P : Program} (w : World) {o : Oper} {a : Act} {K : Act → World → Prop} {Q : Exit → Act → World → Prop} (d s : Operand) (t t' : TypeId)
    (ho : o.op = .call { callee := .builtin .copy, args := #[d, s], argTypes := #[t, t'] }) (v u : Value) (hd : a.eval d = v) (hs : a.eval s = u) {v' : Value} {w' : World}
    (hr : (Builtin.copy_ #[t, t'] o.type #[v, u]).run P w = .ok v' w') (h : K (a.put o.dst v') w') : o.wp P a w K Q := by
  unfold Oper.wp execOp
  simp only [ho, resolve, invoke, builtin, Sem.run_bind, Sem.run_pure, Result.andThen_ok, List.map_toArray, List.map_cons, List.map_nil, hd, hs, hr]
  exact h
theorem wpList_copy_runI {P : Program} (w : World) {ops : Array Oper} {rest : List Oper} {o : Oper} {a : Act} {Q : Exit → Act → World → Prop} (hgd : o.guard = none) (d s : Operand) (t t' : TypeId)
    (ho : o.op = .call { callee := .builtin .copy, args := #[d, s], argTypes := #[t, t'] }) (v u : Value) (hd : a.eval d = v) (hs : a.eval s = u) {v' : Value} {w' : World}
    (hr : (Builtin.copy_ #[t, t'] o.type #[v, u]).run P w = .ok v' w') (h : wpList P ops Q rest (a.put o.dst v') w') : wpList P ops Q (o :: rest) a w :=
  wpList_plain hgd fun _ hK => wp_copy_runI w d s t t' ho v u hd hs hr (hK _ _ h)
theorem step_copy_runI {P : Program} {ops : Array Oper} {o : Oper} {a : Act} {w : World} {K : Act → World → Prop} {Q : Exit → Act → World → Prop} {E : Prop}
    (hg : o.guard = none) (d x : Operand) (dT sT : TypeId) (hop : o.op = Op.call { callee := Callee.builtin Builtin.copy, args := #[d, x], argTypes := #[dT, sT] })
    (v u : Value) (hd : a.eval d = v) (hx : a.eval x = u) {v' : Value} {w' : World} (hr : (Builtin.copy_ #[dT, sT] o.type #[v, u]).run P w = .ok v' w') (hK : K (a.put o.dst v') w') :
    if Region.wanted o (yielded ops a.tmps) = true then Oper.wp P o a w K Q else E := by
  have hw : Region.wanted o (yielded ops a.tmps) = true := by simp [Region.wanted, hg]
  rw [if_pos hw]
  unfold Oper.wp
  simp [execOp, hop, resolve, invoke, builtin, hd, hx, hr, Result.andThen]
  exact hK
theorem row_cells {w : World} {b : Nat} {cur : Array Value} {t : Nat} {xs : List Value} {m : Nat} (hb : w.heap[b]? = some (.cells cur t (0, 0))) (ht : cur.toList.take m = xs) (o : Nat) : ∀ j u, (xs.drop o)[j]? = some u → w.cell? ((⟨b, o, none⟩ : Addr).add j) = some u := by
  intro j u hu
  rw [Addr.add_lit, cell_of_row w b (o + j) _ _ (0, 0) hb]
  rw [List.getElem?_drop, ← ht, List.getElem?_take] at hu
  split at hu
  · simpa using hu
  · cases hu
theorem lay_mid (cur : List Value) (E : List Ent) (x : Ent) (i n cap : Nat) (hn : n = E.length) (hi : i < n) (hc : n + 1 ≤ cap) (hs : cur.length = cap * 7) (ht : cur.take (n * 7) = flat E) (a1 a2 : List Value) (h1 : a1 = cur.take ((i + 1) * 7) ++ flat (E.drop i) ++ cur.drop ((i + 1) * 7 + (flat (E.drop i)).length)) (h2 : a2 = a1.take (i * 7) ++ enc x ++ a1.drop (i * 7 + (enc x).length)) : a2.length = cap * 7 ∧ a2.take ((n + 1) * 7) = flat (E.take i ++ x :: E.drop i) ∧ a1.length = cap * 7 := by
  have hfl : (flat (E.drop i)).length = (n - i) * 7 := by rw [flat_len, List.length_drop, hn]
  have hl1 : a1.length = cap * 7 := by
    rw [h1]
    simp only [List.length_append, List.length_take, List.length_drop, hfl, hs]
    omega
  have hl2 : a2.length = cap * 7 := by
    rw [h2]
    simp only [List.length_append, List.length_take, List.length_drop, enc_len, hl1]
    omega
  refine ⟨hl2, ?_, hl1⟩
  have e1 : a1.take (i * 7) = flat (E.take i) := by
    rw [h1, List.append_assoc, List.take_append_of_le_length (by rw [List.length_take]; omega), List.take_take, Nat.min_eq_left (by omega), ← flat_take, ← ht, List.take_take, Nat.min_eq_left (by omega)]
  have e2 : a1.drop (i * 7 + 7) = flat (E.drop i) ++ cur.drop ((i + 1) * 7 + (n - i) * 7) := by
    rw [h1, hfl, List.append_assoc, List.drop_append_of_le_length (by rw [List.length_take]; omega), List.drop_of_length_le (by rw [List.length_take]; omega), List.nil_append]
  rw [h2, enc_len, e1, e2]
  have e3 : flat (E.take i ++ x :: E.drop i) = flat (E.take i) ++ enc x ++ flat (E.drop i) := by
    rw [flat_app]
    simp [flat]
  rw [e3, ← List.append_assoc, List.take_append_of_le_length (by simp only [List.length_append, hfl, enc_len, flat_len, List.length_take]; omega), List.take_of_length_le (by simp only [List.length_append, hfl, enc_len, flat_len, List.length_take]; omega)]
theorem size77 (w : World) : (Go.sizeOf 77).run Try.prog w = .ok 7 w := by
  obtain ⟨i, hi, hz, hs, hb⟩ := info77'
  simp [sizeOf, typeInfo, hi, hs]
set_option maxHeartbeats 8000000 in
set_option maxRecDepth 100000 in
theorem insert_room (E : List Ent) (x : Ent) (i b cap vb : Nat) (cur : Array Value) (W : World) (base : Nat) (hi : i < E.length) (hbb : base ≤ b) (hb : W.heap[b]? = some (.cells cur 77 (0, 0))) (hcap : E.length + 1 ≤ cap) (hcm : cap ≤ maxLen) (hcs : cur.size = cap * 7) (ht : cur.toList.take (E.length * 7) = flat E) (hv : W.heap[vb]? = some (.cells (enc x).toArray 77 (0, 0))) (hne : vb ≠ b) : Calls Try.prog 45 #[.slice (some ⟨b, 0, none⟩) E.length cap, .int .i64 (i : Nat), .slice (some ⟨vb, 0, none⟩) 1 1] W fun e w' => ∃ v', e = .returned v' ∧ w'.ownsRow base 77 7 v' (E.length + 1) (flat (E.take i ++ x :: E.drop i)) ∧ W.grownBy w' (some b) := by
  have hsz : (Try.prog.info? 77).map (·.size) = some 7 := by
    obtain ⟨i, hi, hz, hs, hb⟩ := info77'
    rw [hi]; simp [hs]
  obtain ⟨n, hn⟩ : ∃ n, n = E.length := ⟨_, rfl⟩
  obtain ⟨a1, h1⟩ : ∃ a1 : List Value, a1 = cur.toList.take ((i + 1) * 7) ++ flat (E.drop i) ++ cur.toList.drop ((i + 1) * 7 + (flat (E.drop i)).length) := ⟨_, rfl⟩
  obtain ⟨a2, h2⟩ : ∃ a2 : List Value, a2 = a1.take (i * 7) ++ enc x ++ a1.drop (i * 7 + (enc x).length) := ⟨_, rfl⟩
  obtain ⟨hl2, htk, hl1⟩ := lay_mid cur.toList E x i n cap hn (by omega) (by omega) (by simpa using hcs) (by rw [hn]; exact ht) a1 a2 h1 h2
  have hfl : (flat (E.drop i)).length = (n - i) * 7 := by rw [flat_len, List.length_drop, hn]
  have hov : ∀ (w : World), w.heap[b]? = some (.cells cur 77 (0, 0)) → w.heap[vb]? = some (.cells (enc x).toArray 77 (0, 0)) → ∀ o lb cb, (callFunc 53 #[.slice (some ⟨vb, 0, none⟩) 1 1, .slice (some ⟨b, o, none⟩) lb cb]).run Try.prog w = .ok (.value (.bool false)) w := fun w hb hv o lb cb => by
    rw [run_callFunc_extern Try.func53 (by kernel_rfl) (by kernel_rfl) (by kernel_rfl) (e := Extern.SlicesOverlaps.overlaps #[61, 61] #[4]) (by kernel_rfl),
      Lib.run_overlaps_apart w 61 4 77 u61 7 size77 ⟨vb, 0, none⟩ ⟨b, o, none⟩ 1 1 lb cb hne 77 77 7 (cap * 7) (by simp [World.shape?, hv, enc]) (by simp [World.shape?, hb, hcs]) (by omega) (by simp [World.frozen?, hv]) (by simp [World.frozen?, hv])]
    rfl
  have hcp1 : ∀ (w : World), w.heap[b]? = some (.cells cur 77 (0, 0)) → ∀ ty dc sc, (Builtin.copy_ #[61, 61] ty #[.slice (some ⟨b, (i + 1) * 7, none⟩) (n - i) dc, .slice (some ⟨b, i * 7, none⟩) (n + 1 - i) sc]).run Try.prog w = .ok (goInt ((n - i : Nat) : Int)) (w.setRow b a1.toArray) := fun w hb ty dc sc => by
    have hmin : Nat.min (n + 1 - i) (n - i) = n - i := by simp only [Nat.min_def]; split <;> omega
    rw [copy_cells w 61 61 ty 77 7 b ((i + 1) * 7) (n - i) dc ⟨b, i * 7, none⟩ (n + 1 - i) sc cur 77 (flat (E.drop i)) u61 hsz hb (by rw [hmin, hfl]) (by rw [← flat_drop]; exact row_cells hb ht (i * 7)) (by rw [hfl]; omega) (flat_one _), hmin, ← h1]
  have hcp2 : ∀ (w : World), w.heap[b]? = some (.cells a1.toArray 77 (0, 0)) → w.heap[vb]? = some (.cells (enc x).toArray 77 (0, 0)) → ∀ ty dc, (Builtin.copy_ #[61, 61] ty #[.slice (some ⟨b, i * 7, none⟩) (n + 1 - i) dc, .slice (some ⟨vb, 0, none⟩) 1 1]).run Try.prog w = .ok (goInt ((1 : Nat) : Int)) (w.setRow b a2.toArray) := fun w hb hv ty dc => by
    have hmin : Nat.min 1 (n + 1 - i) = 1 := by simp only [Nat.min_def]; split <;> omega
    rw [copy_cells w 61 61 ty 77 7 b (i * 7) (n + 1 - i) dc ⟨vb, 0, none⟩ 1 1 a1.toArray 77 (enc x) u61 hsz hb (by rw [hmin, enc_len]) (cells_of_row hv) (by rw [enc_len]; simp [hl1]; omega) (fun u hu => flat_one [x] u (by simpa [flat] using hu)), hmin]
    rw [show ((a1.toArray.toList.take (i * 7) ++ enc x ++ a1.toArray.toList.drop (i * 7 + (enc x).length)).toArray) = a2.toArray by rw [h2]]
  obtain ⟨W1, hW1⟩ : ∃ W1 : World, W1 = W.drew.setRow b a1.toArray := ⟨_, rfl⟩
  have hb1 : W1.heap[b]? = some (.cells a1.toArray 77 (0, 0)) := by rw [hW1]; exact setRow_heap W.drew b cur _ 77 (0, 0) hb
  have hv1 : W1.heap[vb]? = some (.cells (enc x).toArray 77 (0, 0)) := by rw [hW1]; exact (setRow_other W.drew b vb _ hne).trans hv
  have hcpA := fun ty dc sc => hcp1 W.drew hb ty dc sc
  rw [← hW1] at hcpA
  have hcpB := fun ty dc => hcp2 W1 hb1 hv1 ty dc
  obtain ⟨W2, hW2⟩ : ∃ W2 : World, W2 = W1.setRow b a2.toArray := ⟨_, rfl⟩
  rw [← hW2] at hcpB
  have FIN : RowKit.Hid (W2.ownsRow base 77 7 (.slice (some ⟨b, 0, none⟩) (n + 1) cap) (n + 1) (flat (E.take i ++ x :: E.drop i)) ∧ W.grownBy W2 (some b)) := by
    refine ⟨⟨?_, .inr ⟨b, cap, a2.toArray, rfl, hbb, ?_, by omega, hcm, by simpa using hl2, ?_⟩⟩, ?_⟩
    · rw [flat_len, List.length_append, List.length_cons, List.length_take, List.length_drop]; omega
    · rw [hW2]; exact setRow_heap W1 b a1.toArray _ 77 (0, 0) hb1
    · exact htk
    · rw [hW2, hW1]
      refine ⟨rfl, rfl, rfl, by simp [World.setRow], fun k hk hkb => ?_⟩
      have hkb' : k ≠ b := fun e => hkb (by rw [e])
      exact (setRow_other _ b k _ hkb').trans (setRow_other _ b k _ hkb')
  have hov0 := fun o lb cb => hov W hb hv o lb cb
  rw [← hn]
  have hin : (i : Int) < (n : Int) := by omega
  have hnc : (n : Int) + 1 ≤ (cap : Int) := by omega
  have hw1 : IntKind.i64.wrap ((i : Int) + 1) = (i : Int) + 1 := by rw [IntKind.wrap_i64]; unfold maxLen at hcm; omega
  have hz2 : ¬ ((i : Int) = (n : Int)) := by omega
  have hb1' : (0 : Int) ≤ (i : Int) + 1 := by omega
  have htn : ((i : Int) + 1).toNat = i + 1 := by omega
  have htn2 : ((n : Int) + 1).toNat = n + 1 := by omega
  have hb2 : ¬ (cap = i + 1) := by omega
  have hb3 : (i : Int) ≤ (n : Int) + 1 := by omega
  have hb4 : ¬ (cap = i) := by omega
  have hb5 : (i : Int) ≤ (n : Int) := by omega
  have HOV := Lib.hid hov0
  have HCA := Lib.hid hcpA
  have HCB := Lib.hid hcpB
  clear hov hcp1 hcp2 hov0 hcpA hcpB hb1 hv1 hW1 hW2 hl2 htk hl1 h1 h2 hfl hb hv hcs ht hn hi hcap
  unfold maxLen at hcm
  go_enter Try.func45, Try.ntmps45
  go_wp2_with (simp only [HOV.out])
  have mixed : Try.prog.follows Departure.mixedOrders = true := by kernel_rfl
  go_region_law_o (refine step_copy_runI rfl _ _ 61 61 rfl (.slice (some ⟨b, (i + 1) * 7, none⟩) (n - i) (cap - (i + 1))) (.slice (some ⟨b, i * 7, none⟩) (n + 1 - i) (cap - i)) (by simp [Act.eval, Act.put]) (by simp [Act.eval, Act.put]) (HCA.out _ _ _) ?_)
  go_wp2_with (refine wpList_copy_runI _ rfl _ _ 61 61 rfl (.slice (some ⟨b, i * 7, none⟩) (n + 1 - i) (cap - i)) (.slice (some ⟨vb, 0, none⟩) 1 1) rfl rfl (HCB.out _ _) ?_)
  go_ret
  exact ⟨_, rfl, FIN.out.1, FIN.out.2⟩
end Go.Proofs.Ytfdfnmlbmijdjaa.Rt
