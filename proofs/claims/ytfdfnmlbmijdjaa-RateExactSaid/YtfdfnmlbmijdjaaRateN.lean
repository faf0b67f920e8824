/-
  Walks of package rate: Add.
  No conditions.
-/
import Derived.Test.YtfdfnmlbmijdjaaRateL
import Derived.Test.YtfdfnmlbmijdjaaRateP
namespace Go.Proofs.Ytfdfnmlbmijdjaa.Rt
open Go.RowKit Go.Lib Go.Proofs.YtfdfnmlbmijdjaaW.PrintWords Go.Proofs.YtfdfnmlbmijdjaaW.PrintLast Go.Proofs.YtfdfnmlbmijdjaaW.PrintMore
set_option linter.unusedVariables false
set_option linter.unusedSimpArgs false
def maySub (a b p q : Int) : Bool := decide (0 ≤ a) && decide (a < 8) && decide (1 ≤ b) && decide (b ≤ 15) && decide (1 ≤ p) && decide (p ≤ 1000) && decide (0 ≤ q) && decide (q ≤ 60000)
theorem sub_f (a b p q : Int) : cmd_Sub.f a b p q = some (maySub a b p q) := by
  unfold cmd_Sub.f cmd_Client.f cmd_Sensor.f maySub
  by_cases h1 : 0 ≤ a <;> by_cases h2 : a < 8 <;> by_cases h3 : 1 ≤ b <;> by_cases h4 : b ≤ 15 <;> by_cases h5 : 1 ≤ p <;> by_cases h6 : p ≤ 1000 <;> by_cases h7 : 0 ≤ q <;> by_cases h8 : q ≤ 60000 <;> simp [*]
theorem sub_ (a b p q : Int) (w : World) : Calls Try.prog 29 #[.agg #[.int .i64 a, .int .i64 b, .int .i64 p, .int .i64 q]] w fun e w' => e = .returned (.bool (maySub a b p q)) ∧ Below w.heap.size w w' := cmd_Sub.calls a b p q _ w (sub_f a b p q)
theorem Moved.cellB {w w' : World} {g : Nat} {row : Option Nat} (h : Moved w w' g row) {b j : Nat} (hb : b < w.heap.size) (hg : b ≠ g) (hr : some b ≠ row) : w'.cell? ⟨b, j, none⟩ = w.cell? ⟨b, j, none⟩ := World.cell?_of_block (h.block b hb hg hr)
/-- Nothing but block g and rows of entries made since base has changed. -/
structure MovT (base : Nat) (w w' : World) (g : Nat) : Prop where
  os : w'.os = w.os
  tape : w'.tape = w.tape
  output : w'.output = w.output
  size : w.heap.size ≤ w'.heap.size
  block : ∀ k, k < w.heap.size → k ≠ g → (k < base ∨ ∀ cs r, w.heap[k]? ≠ some (.cells cs 77 r)) → w'.heap[k]? = w.heap[k]?
theorem Moved.toT {base : Nat} {w w' : World} {g : Nat} {v : Value} {E : List Ent} (h : Moved w w' g v.ownBlock) (hT : Tab base w g v E) : MovT base w w' g :=
  ⟨h.os, h.tape, h.output, h.size, fun k hk hkg hkt => h.block k hk hkg (fun e => by
    rcases hT.2.2 with ⟨rfl, h0⟩ | ⟨b, cap, cur, rfl, hb, hh, _⟩
    · cases e
    · injection e with e
      have e' : k = b := e
      subst e'
      rcases hkt with hkt | hkt
      · omega
      · exact hkt _ _ hh)⟩
theorem MovT.trans {base : Nat} {w w1 w2 : World} {g : Nat} (h : MovT base w w1 g) (h1 : MovT base w1 w2 g) : MovT base w w2 g :=
  ⟨h1.os.trans h.os, h1.tape.trans h.tape, h1.output.trans h.output, Nat.le_trans h.size h1.size, fun k hk hkg hkt => by
    have e := h.block k hk hkg hkt
    exact (h1.block k (Nat.lt_of_lt_of_le hk h.size) hkg (by rw [e]; exact hkt)).trans e⟩
theorem MovT.of_below {base : Nat} {w w' : World} {g : Nat} (hb : Below w.heap.size w w') : MovT base w w' g := ⟨hb.os, hb.tape, hb.output, hb.size, fun k hk _ _ => hb.block k hk⟩
theorem MovT.belowB {base : Nat} {w0 w w' : World} {g : Nat} (h : MovT base w w' g) (hB : Below base w0 w) (hg : base ≤ g) (hs : base ≤ w.heap.size) : Below base w0 w' :=
  ⟨h.os.trans hB.os, h.tape.trans hB.tape, h.output.trans hB.output, Nat.le_trans hB.size h.size, fun k hk => (h.block k (by omega) (by omega) (.inl hk)).trans (hB.block k hk)⟩
theorem exec_store {P : Program} (r : Operand → Value) (o : Oper) (t : TypeId) (a x : Operand) (ho : o.op = .store t a x) (w w' : World) (h : (Instr.storeAt t (r a) (r x)).run P w = .ok () w') : (execOp r o).run P w = .ok .skip w' := by
  unfold execOp
  simp only [ho, Sem.run_bind, h, Result.andThen_ok, Sem.run_pure]
def addE (E : List Ent) (a b p q : Int) : List Ent := (ins E a b).set (posOf E a b) (putSub (ins E a b)[posOf E a b]! a b p q)
theorem ins_lt (E : List Ent) (a b : Int) : posOf E a b < (ins E a b).length := by
  unfold ins
  cases ht : isAt E a b with
  | true => exact isAt_lt ht
  | false =>
    have := pos_le E a b
    simp only [Bool.false_eq_true, if_false, List.length_append, List.length_cons, List.length_take, List.length_drop]
    omega
theorem lt_of_alloc {w w2 : World} {o : Obj} (h : Below (w.alloc o).heap.size (w.alloc o) w2) : w.heap.size < w2.drew.heap.size := by
  have h9 := h.size
  rw [World.size_alloc] at h9
  exact h9
theorem new4k (w : World) (x y z u : Int) (t : Nat) (i : Nat) : (w.alloc (.cells #[.int .i64 x, .int .i64 y, .int .i64 z, .int .i64 u] t)).cell? ⟨w.heap.size, i, none⟩ = (#[Value.int .i64 x, .int .i64 y, .int .i64 z, .int .i64 u] : Array Value)[i]? := blk_cell (blk_new w _) i
set_option maxHeartbeats 8000000 in
set_option maxRecDepth 100000 in
theorem add_no (base g : Nat) (v : Value) (E : List Ent) (a b p q : Int) (W : World) (h : Tab base W g v E) (hm : maySub a b p q = false) : Calls Try.prog 9 #[.pointer (some ⟨g, 0, none⟩), .agg #[.int .i64 a, .int .i64 b, .int .i64 p, .int .i64 q]] W fun e w' => e = .returned (.int .i64 1) ∧ Below W.heap.size W w' := by
  have hs := fun w => sub_ a b p q w
  rw [hm] at hs
  have HS := Lib.hid hs
  clear hs h hm
  go_enter Try.func9, Try.ntmps9
  go_wp2_with (go_at_call 29; refine (HS.out _).mono ?_; rintro e w2 ⟨rfl, hb2⟩; have HB2 := Lib.hid hb2; clear hb2)
  go_ret
  exact ⟨rfl, below_step (below_alloc (Below.refl _ _) _) HB2.out⟩
set_option maxHeartbeats 8000000 in
set_option maxRecDepth 100000 in
theorem add_ok (base g : Nat) (v : Value) (E : List Ent) (a b p q : Int) (W : World) (h : Tab base W g v E) (hbase : base ≤ W.heap.size) (hso : Sorted E) (hsz : E.length < 1099511627776) (hm : maySub a b p q = true) : Calls Try.prog 9 #[.pointer (some ⟨g, 0, none⟩), .agg #[.int .i64 a, .int .i64 b, .int .i64 p, .int .i64 q]] W fun e w' => e = .returned (.int .i64 0) ∧ ∃ v', Tab base w' g v' (addE E a b p q) ∧ MovT base W w' g := by
  have hs := fun w => sub_ a b p q w
  rw [hm] at hs
  have HS := Lib.hid hs
  have hat0 : ∀ (W2 : World), Below W.heap.size W W2 → Calls Try.prog 30 #[.pointer (some ⟨g, 0, none⟩), .agg #[.int .i64 a, .int .i64 b]] W2 fun e w' => ∃ b1 c1, e = .returned (.pointer (some ⟨b1, posOf E a b * 7 + 2, none⟩)) ∧ Tab base w' g (.slice (some ⟨b1, 0, none⟩) (ins E a b).length c1) (ins E a b) ∧ Moved W2 w' g v.ownBlock := fun W2 hB => at_ base g v E a b W2 (h.below hB) (Nat.le_trans hbase hB.size) hso hsz
  have hg : g < W.heap.size := blk_lt h.1
  have hg' : W.heap.size ≠ g := by omega
  have hrow : some W.heap.size ≠ v.ownBlock := fun e => by have := own_lt h.2 _ e.symm; omega
  have hP := ins_lt E a b
  have HA0 := Lib.hid hat0
  have hh0 : ∀ W2 : World, Below W.heap.size W W2 → Tab base W2 g v E := fun W2 hB => h.below hB
  have HH0 := Lib.hid hh0
  clear hs h hm hat0 hso hsz hh0
  unfold addE
  generalize posOf E a b = P at *
  generalize ins E a b = R at *
  have HP := Lib.hid hP
  clear hP
  have mixed : Try.prog.follows Departure.mixedOrders = true := by kernel_rfl
  go_enter Try.func9, Try.ntmps9
  go_wp2_with (go_at_call 29; refine (HS.out _).mono ?_; rintro e w2 ⟨rfl, hb2⟩; have hb3 : Below W.heap.size W w2 := below_step (below_alloc (Below.refl _ _) _) hb2; have HB3 := Lib.hid hb3; have HA := Lib.hid (HA0.out w2.drew (below_drew hb3)); have hlt2 : W.heap.size < w2.drew.heap.size := lt_of_alloc hb2; have hk0 := pw_cell_below hb2 (new4k W a b p q _ 0); have hk1 := pw_cell_below hb2 (new4k W a b p q _ 1); have hk2 := pw_cell_below hb2 (new4k W a b p q _ 2); have hk3 := pw_cell_below hb2 (new4k W a b p q _ 3); clear hb2 hb3)
  refine start_ (n := 13) (S := fun w' => w'.cell? ⟨W.heap.size, 0, none⟩ = some (.int .i64 a) ∧ w'.cell? ⟨W.heap.size, 1, none⟩ = some (.int .i64 b) ∧ w'.cell? ⟨W.heap.size, 2, none⟩ = some (.int .i64 p) ∧ w'.cell? ⟨W.heap.size, 3, none⟩ = some (.int .i64 q)) (ds := [12]) #[false, false, false, false, false, false, false, false, false, false, false, false, false] (by kernel_rfl) rfl rfl ⟨hk0, hk1, hk2, hk3⟩ (fun hHeld => ?_)
  refine pure_ (i := 0) (N := some 8) (v := ?_) (a' := ?_) #[true, false, false, false, false, false, false, false, false, false, false, false, false] rfl rfl (by kernel_rfl) (fun _ _ _ h => h) (Or.inl ⟨by rfl, ?_⟩) ?_ ?_
  rotate_left
  · intro w'
    go_simp
    with_reducible rfl
  rotate_left
  · simp only [Act.put, List.setIfInBounds_toArray, List.set_cons_zero, List.set_cons_succ, i64_w, i32_w]
    rfl
  refine pure_ (i := 1) (N := some 9) (v := ?_) (a' := ?_) #[true, true, false, false, false, false, false, false, false, false, false, false, false] rfl rfl (by kernel_rfl) (fun _ _ _ h => h) (Or.inl ⟨by rfl, ?_⟩) ?_ ?_
  rotate_left
  · intro w'
    go_simp
    with_reducible rfl
  rotate_left
  · simp only [Act.put, List.setIfInBounds_toArray, List.set_cons_zero, List.set_cons_succ, i64_w, i32_w]
    rfl
  refine pure_ (i := 2) (N := some 10) (v := ?_) (a' := ?_) #[true, true, true, false, false, false, false, false, false, false, false, false, false] rfl rfl (by kernel_rfl) (fun _ _ _ h => h) (Or.inl ⟨by rfl, ?_⟩) ?_ ?_
  rotate_left
  · intro w'
    go_simp
    with_reducible rfl
  rotate_left
  · simp only [Act.put, List.setIfInBounds_toArray, List.set_cons_zero, List.set_cons_succ, i64_w, i32_w]
    rfl
  refine pure_ (i := 3) (N := some 11) (v := ?_) (a' := ?_) #[true, true, true, true, false, false, false, false, false, false, false, false, false] rfl rfl (by kernel_rfl) (fun _ _ _ h => h) (Or.inl ⟨by rfl, ?_⟩) ?_ ?_
  rotate_left
  · intro w'
    go_simp
    with_reducible rfl
  rotate_left
  · simp only [Act.put, List.setIfInBounds_toArray, List.set_cons_zero, List.set_cons_succ, i64_w, i32_w]
    rfl
  refine pure_ (i := 5) (N := some 13) (v := ?_) (a' := ?_) #[true, true, true, true, false, true, false, false, false, false, false, false, false] rfl rfl (by kernel_rfl) (fun _ _ _ h => h) (Or.inl ⟨by rfl, ?_⟩) ?_ ?_
  rotate_left
  · intro w'
    go_simp
    with_reducible rfl
  rotate_left
  · simp only [Act.put, List.setIfInBounds_toArray, List.set_cons_zero, List.set_cons_succ, i64_w, i32_w]
    rfl
  refine take_ (i := 4) (N := some 12) (v := ?_) (a' := ?_) #[true, true, true, true, true, true, false, false, false, false, false, false, false] rfl rfl (by kernel_rfl) (fun _ _ _ h => h) (Or.inl ⟨by rfl, ?_⟩) hHeld ?_ ?_
  rotate_left
  · rintro w' ⟨s0, s1, s2, s3⟩
    go_simp
    with_reducible rfl
  rotate_left
  · simp only [Act.put, List.setIfInBounds_toArray, List.set_cons_zero, List.set_cons_succ, i64_w, i32_w]
    rfl
  refine take_ (i := 6) (N := some 14) (v := ?_) (a' := ?_) #[true, true, true, true, true, true, true, false, false, false, false, false, false] rfl rfl (by kernel_rfl) (fun _ _ _ h => h) (Or.inl ⟨by rfl, ?_⟩) hHeld ?_ ?_
  rotate_left
  · rintro w' ⟨s0, s1, s2, s3⟩
    go_simp
    with_reducible rfl
  rotate_left
  · simp only [Act.put, List.setIfInBounds_toArray, List.set_cons_zero, List.set_cons_succ, i64_w, i32_w]
    rfl
  refine pure_ (i := 7) (N := some 15) (v := ?_) (a' := ?_) #[true, true, true, true, true, true, true, true, false, false, false, false, false] rfl rfl (by kernel_rfl) (fun _ _ _ h => h) (Or.inl ⟨by rfl, ?_⟩) ?_ ?_
  rotate_left
  · intro w'
    go_simp
    with_reducible rfl
  rotate_left
  · simp only [Act.put, List.setIfInBounds_toArray, List.set_cons_zero, List.set_cons_succ, i64_w, i32_w]
    rfl
  refine take_ (i := 9) (N := some 17) (v := ?_) (a' := ?_) #[true, true, true, true, true, true, true, true, false, true, false, false, false] rfl rfl (by kernel_rfl) (fun _ _ _ h => h) (Or.inl ⟨by rfl, ?_⟩) hHeld ?_ ?_
  rotate_left
  · rintro w' ⟨s0, s1, s2, s3⟩
    go_simp
    with_reducible rfl
  rotate_left
  · simp only [Act.put, List.setIfInBounds_toArray, List.set_cons_zero, List.set_cons_succ, i64_w, i32_w]
    rfl
  refine one_ (i := 8) (N := some 16) #[true, true, true, true, true, true, true, true, true, true, false, false, false] rfl rfl (by kernel_rfl) (by decide) (fun K hK => ?_)
  refine goes_ Try.func30 (by kernel_rfl) rfl #[.pointer (some ⟨g, 0, none⟩), .agg #[.int .i64 a, .int .i64 b]] (by rfl) rfl rfl (by simp only [List.map_toArray, List.map_cons, List.map_nil]; rfl) ?_
  with_reducible refine (HA.out).mono ?_
  rintro e w3 ⟨b1, c1, rfl, hT, hM⟩
  refine ⟨_, rfl, ?_⟩
  have HT := Lib.hid hT
  have HM := Lib.hid hM
  clear hT hM
  refine hK.out _ _ ⟨(HM.out.cellB (by assumption) (by assumption) (by assumption)).trans hHeld.1, (HM.out.cellB (by assumption) (by assumption) (by assumption)).trans hHeld.2.1, (HM.out.cellB (by assumption) (by assumption) (by assumption)).trans hHeld.2.2.1, (HM.out.cellB (by assumption) (by assumption) (by assumption)).trans hHeld.2.2.2⟩ (fun hHeld => ?_)
  clear hK K
  refine norm_ (a' := ?_) ?_ ?_
  rotate_left
  · show Act.put _ (some 16) _ = _
    simp only [Act.put, List.setIfInBounds_toArray, List.set_cons_zero, List.set_cons_succ, i64_w, i32_w]
    rfl
  refine pure_ (i := 10) (N := some 18) (v := ?_) (a' := ?_) #[true, true, true, true, true, true, true, true, true, true, true, false, false] rfl rfl (by kernel_rfl) (fun _ _ _ h => h) (Or.inl ⟨by rfl, ?_⟩) ?_ ?_
  rotate_left
  · intro w'
    go_simp
    with_reducible rfl
  rotate_left
  · simp only [Act.put, List.setIfInBounds_toArray, List.set_cons_zero, List.set_cons_succ, i64_w, i32_w]
    rfl
  refine pure_ (i := 11) (N := some 19) (v := ?_) (a' := ?_) #[true, true, true, true, true, true, true, true, true, true, true, true, false] rfl rfl (by kernel_rfl) (fun _ _ _ h => h) (Or.inl ⟨by rfl, ?_⟩) ?_ ?_
  rotate_left
  · intro w'
    go_simp
    with_reducible rfl
  rotate_left
  · simp only [Act.put, List.setIfInBounds_toArray, List.set_cons_zero, List.set_cons_succ, i64_w, i32_w]
    rfl
  refine last_ (i := 12) (N := none) #[true, true, true, true, true, true, true, true, true, true, true, true, true] rfl rfl (by kernel_rfl) (by decide) (fun K hK => ?_)
  obtain ⟨w4, hrun, hT4, hM4⟩ := Tab.put HT.out P (by assumption) a b p q (by kernel_rfl)
  refine skip_ (w1 := w4) (by rfl) rfl ?_ ?_
  · exact exec_store _ _ _ _ _ (by rfl) _ _ hrun
  refine hK.out _ _ ?_
  clear hK K
  refine done_ (by kernel_rfl) ?_
  have HT4 := Lib.hid hT4
  have HM4 := Lib.hid hM4
  clear hT4 hM4
  go_wp2
  go_ret
  exact ⟨rfl, _, HT4.out, MovT.trans (MovT.of_below (below_drew HB3.out)) (MovT.trans (Moved.toT HM.out (HH0.out w2.drew (below_drew HB3.out))) (Moved.toT (show Moved w3 w4 g (Value.slice (some ⟨b1, 0, none⟩) R.length c1).ownBlock from HM4.out) HT.out))⟩
end Go.Proofs.Ytfdfnmlbmijdjaa.Rt
