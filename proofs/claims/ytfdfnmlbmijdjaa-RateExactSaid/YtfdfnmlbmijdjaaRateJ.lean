/-
  Walks of package rate: the place of a key's thing, which is made, if there is none.
  No conditions.
-/
import Derived.Test.YtfdfnmlbmijdjaaRateH
namespace Go.Proofs.Ytfdfnmlbmijdjaa.Rt
open Go.RowKit Go.Lib Go.Proofs.YtfdfnmlbmijdjaaW.PrintWords Go.Proofs.YtfdfnmlbmijdjaaW.PrintLast Go.Proofs.YtfdfnmlbmijdjaaW.PrintMore
set_option linter.unusedVariables false
set_option linter.unusedSimpArgs false
def ins (E : List Ent) (kc ks : Int) : List Ent := if isAt E kc ks then E else E.take (posOf E kc ks) ++ ⟨kc, ks, 0, 0, 0, 0, 0⟩ :: E.drop (posOf E kc ks)
theorem new2k0 (w : World) (x y : Int) (t : Nat) : (w.alloc (.cells #[.int .i64 x, .int .i64 y] t)).cell? ⟨w.heap.size, 0, none⟩ = some (.int .i64 x) := (blk_cell (blk_new w _) 0).trans rfl
theorem new2k1 (w : World) (x y : Int) (t : Nat) : (w.alloc (.cells #[.int .i64 x, .int .i64 y] t)).cell? ⟨w.heap.size, 1, none⟩ = some (.int .i64 y) := (blk_cell (blk_new w _) 1).trans rfl
theorem pos_le (E : List Ent) (kc ks : Int) : posOf E kc ks ≤ E.length := List.countP_le_length
theorem Tab.block {base : Nat} {w : World} {g n c : Nat} {A : Option Addr} {E : List Ent} (h : Tab base w g (.slice A n c) E) (h0 : 0 < E.length) : ∃ b, A = some ⟨b, 0, none⟩ ∧ E.length ≤ c ∧ n = E.length := by
  rcases h.2.2 with ⟨hv, h1⟩ | ⟨b, cap, cur, hv, hb, hh, hnc, hcm, hcs, ht⟩
  · omega
  · injection hv with ha hn hc
    subst ha hn hc
    exact ⟨b, rfl, hnc, rfl⟩
set_option maxHeartbeats 8000000 in
set_option maxRecDepth 100000 in
theorem at_new (base g : Nat) (v : Value) (E : List Ent) (kc ks : Int) (W : World) (h : Tab base W g v E) (hbase : base ≤ W.heap.size) (hso : Sorted E) (hsz : E.length < 1099511627776) (ht : isAt E kc ks = false) : Calls Try.prog 30 #[.pointer (some ⟨g, 0, none⟩), .agg #[.int .i64 kc, .int .i64 ks]] W fun e w' => ∃ b c, e = .returned (.pointer (some ⟨b, posOf E kc ks * 7 + 2, none⟩)) ∧ Tab base w' g (.slice (some ⟨b, 0, none⟩) (ins E kc ks).length c) (ins E kc ks) ∧ Moved W w' g v.ownBlock := by
  obtain ⟨A, c, rfl⟩ := h.slice
  have hfind : ∀ (W' : World), Below W.heap.size W W' → Calls Try.prog 44 #[.pointer (some ⟨g, 0, none⟩), .agg #[.int .i64 kc, .int .i64 ks]] W' fun e w' => e = .returned (.tuple #[.int .i64 (posOf E kc ks : Nat), .bool (isAt E kc ks)]) ∧ Below W'.heap.size W' w' := fun W' hB => find_ E kc ks W' A c g (h.below hB).rowAt.2 hso (by omega) ((blk_cell (h.below hB).1 0).trans rfl) ((blk_cell (h.below hB).1 1).trans rfl)
  have hg : g < W.heap.size := blk_lt h.1
  rw [ht] at hfind
  have hle := pos_le E kc ks
  have hre : ins E kc ks = E.take (posOf E kc ks) ++ ⟨kc, ks, 0, 0, 0, 0, 0⟩ :: E.drop (posOf E kc ks) := by unfold ins; rw [ht]; rfl
  have hrl : (ins E kc ks).length = E.length + 1 := by rw [hre, List.length_append, List.length_cons, List.length_take, List.length_drop]; omega
  have hins : ∀ (W2 : World), Below W.heap.size W W2 → Calls Try.prog 45 #[.slice A E.length c, .int .i64 (posOf E kc ks : Nat), .slice (some ⟨W2.heap.size, 0, none⟩) 1 1] (W2.alloc (.cells #[.int .i64 kc, .int .i64 ks, .int .i64 0, .int .i64 0, .int .i64 0, .int .i64 0, .int .i64 0] 77)).drew fun e w' => ∃ v', e = .returned v' ∧ Tab base (w'.setCell ⟨g, 0, none⟩ v') g v' (ins E kc ks) ∧ Moved (W2.alloc (.cells #[.int .i64 kc, .int .i64 ks, .int .i64 0, .int .i64 0, .int .i64 0, .int .i64 0, .int .i64 0] 77)).drew (w'.setCell ⟨g, 0, none⟩ v') g (Value.slice A E.length c).ownBlock ∧ w'.cell? ⟨g, 0, none⟩ = some (.slice A E.length c) ∧ w'.frozen? ⟨g, 0, none⟩ = false := fun W2 hB => by
    have hT := h.below (below_drew (below_alloc hB (.cells #[.int .i64 kc, .int .i64 ks, .int .i64 0, .int .i64 0, .int .i64 0, .int .i64 0, .int .i64 0] 77)))
    refine (insert_ E ⟨kc, ks, 0, 0, 0, 0, 0⟩ (posOf E kc ks) (.slice A E.length c) _ base W2.heap.size hle hT.2 (blk_new W2 _) ?_ ?_ hsz).mono fun e w' ⟨v', he, ho, hgr⟩ => ?_
    · intro he
      have h1 := own_lt (h.below hB).2 W2.heap.size he.symm
      omega
    · have := hB.size
      show base ≤ (W2.alloc _).heap.size
      rw [World.size_alloc]
      omega
    · rw [← hrl, ← hre] at ho
      exact ⟨v', he, Tab.stored hT hgr ho⟩
  have hc0 : ∀ (W' : World), Below W.heap.size W W' → W'.cell? ⟨g, 0, none⟩ = some (.slice A E.length c) := fun W' hB => (blk_cell (h.below hB).1 0).trans rfl
  have HF := Lib.hid hfind
  have HI0 := Lib.hid hins
  have HC := Lib.hid hc0
  obtain ⟨R, hR⟩ : ∃ R, R = ins E kc ks := ⟨_, rfl⟩
  rw [← hR] at HI0 hrl ⊢
  obtain ⟨n, hn⟩ : ∃ n, n = E.length := ⟨_, rfl⟩
  rw [← hn] at HI0 HC hrl hle hsz ⊢
  obtain ⟨p, hpp⟩ : ∃ p, p = posOf E kc ks := ⟨_, rfl⟩
  rw [← hpp] at HF HI0 hle ⊢
  have HRL := Lib.hid hrl
  clear hfind hins hc0 h hre ht hn hso hpp hR hrl
  have mixed : Try.prog.follows Departure.mixedOrders = true := by kernel_rfl
  go_enter Try.func30, Try.ntmps30
  go_wp2_with (go_at_call 44; refine (HF.out _ (below_alloc (Below.refl _ _) _)).mono ?_; rintro e w2 ⟨rfl, hb2⟩; have hb3 : Below W.heap.size W w2 := below_step (below_alloc (Below.refl _ _) _) hb2; have hcc := HC.out _ hb3; have hk0 := pw_cell_below hb2 (new2k0 W kc ks _); have hk1 := pw_cell_below hb2 (new2k1 W kc ks _); have HB3 := Lib.hid hb3; have HI := Lib.hid (HI0.out w2 hb3); clear hb2 hb3)
  refine start_ (n := 13) (S := fun w' => w'.cell? ⟨g, 0, none⟩ = some (.slice A n c) ∧ w'.cell? ⟨W.heap.size, 0, none⟩ = some (.int .i64 kc) ∧ w'.cell? ⟨W.heap.size, 1, none⟩ = some (.int .i64 ks)) (ds := [9, 12]) #[false, false, false, false, false, false, false, false, false, false, false, false, false] (by kernel_rfl) rfl rfl ⟨hcc, hk0, hk1⟩ (fun hHeld => ?_)
  refine pure_ (i := 0) (N := some 15) (v := ?_) (a' := ?_) #[true, false, false, false, false, false, false, false, false, false, false, false, false] rfl rfl (by kernel_rfl) (fun _ _ _ h => h) (Or.inl ⟨by rfl, ?_⟩) ?_ ?_
  rotate_left
  · intro w'
    go_simp
    with_reducible rfl
  rotate_left
  · simp only [Act.put, List.setIfInBounds_toArray, List.set_cons_zero, List.set_cons_succ, i64_w, i32_w]
    rfl
  refine pure_ (i := 1) (N := some 16) (v := ?_) (a' := ?_) #[true, true, false, false, false, false, false, false, false, false, false, false, false] rfl rfl (by kernel_rfl) (fun _ _ _ h => h) (Or.inl ⟨by rfl, ?_⟩) ?_ ?_
  rotate_left
  · intro w'
    go_simp
    with_reducible rfl
  rotate_left
  · simp only [Act.put, List.setIfInBounds_toArray, List.set_cons_zero, List.set_cons_succ, i64_w, i32_w]
    rfl
  refine pure_ (i := 2) (N := some 17) (v := ?_) (a' := ?_) #[true, true, true, false, false, false, false, false, false, false, false, false, false] rfl rfl (by kernel_rfl) (fun _ _ _ h => h) (Or.inl ⟨by rfl, ?_⟩) ?_ ?_
  rotate_left
  · intro w'
    go_simp
    with_reducible rfl
  rotate_left
  · simp only [Act.put, List.setIfInBounds_toArray, List.set_cons_zero, List.set_cons_succ, i64_w, i32_w]
    rfl
  refine pure_ (i := 3) (N := some 18) (v := ?_) (a' := ?_) #[true, true, true, true, false, false, false, false, false, false, false, false, false] rfl rfl (by kernel_rfl) (fun _ _ _ h => h) (Or.inl ⟨by rfl, ?_⟩) ?_ ?_
  rotate_left
  · intro w'
    go_simp
    with_reducible rfl
  rotate_left
  · simp only [Act.put, List.setIfInBounds_toArray, List.set_cons_zero, List.set_cons_succ, i64_w, i32_w]
    rfl
  refine pure_ (i := 5) (N := some 20) (v := ?_) (a' := ?_) #[true, true, true, true, false, true, false, false, false, false, false, false, false] rfl rfl (by kernel_rfl) (fun _ _ _ h => h) (Or.inl ⟨by rfl, ?_⟩) ?_ ?_
  rotate_left
  · intro w'
    go_simp
    with_reducible rfl
  rotate_left
  · simp only [Act.put, List.setIfInBounds_toArray, List.set_cons_zero, List.set_cons_succ, i64_w, i32_w]
    rfl
  refine take_ (i := 4) (N := some 19) (v := ?_) (a' := ?_) #[true, true, true, true, true, true, false, false, false, false, false, false, false] rfl rfl (by kernel_rfl) (fun _ _ _ h => h) (Or.inl ⟨by rfl, ?_⟩) hHeld ?_ ?_
  rotate_left
  · rintro w' ⟨s0, s1, s2⟩
    go_simp
    with_reducible rfl
  rotate_left
  · simp only [Act.put, List.setIfInBounds_toArray, List.set_cons_zero, List.set_cons_succ, i64_w, i32_w]
    rfl
  refine take_ (i := 6) (N := some 21) (v := ?_) (a' := ?_) #[true, true, true, true, true, true, true, false, false, false, false, false, false] rfl rfl (by kernel_rfl) (fun _ _ _ h => h) (Or.inl ⟨by rfl, ?_⟩) hHeld ?_ ?_
  rotate_left
  · rintro w' ⟨s0, s1, s2⟩
    go_simp
    with_reducible rfl
  rotate_left
  · simp only [Act.put, List.setIfInBounds_toArray, List.set_cons_zero, List.set_cons_succ, i64_w, i32_w]
    rfl
  refine pure_ (i := 7) (N := some 22) (v := ?_) (a' := ?_) #[true, true, true, true, true, true, true, true, false, false, false, false, false] rfl rfl (by kernel_rfl) (fun _ _ _ h => h) (Or.inl ⟨by rfl, ?_⟩) ?_ ?_
  rotate_left
  · intro w'
    go_simp
    with_reducible rfl
  rotate_left
  · simp only [Act.put, List.setIfInBounds_toArray, List.set_cons_zero, List.set_cons_succ, i64_w, i32_w]
    rfl
  refine one_ (i := 8) (N := some 23) #[true, true, true, true, true, true, true, true, true, false, false, false, false] rfl rfl (by kernel_rfl) (by decide) (fun K hK => ?_)
  refine value_ (w1 := ?_) (v := ?_) (by rfl) rfl ?_ ?_
  rotate_left 2
  · go_simp
    constructor
    · rfl
    · rfl
  refine hK.out _ _ ⟨(World.cell?_alloc_lt _ _ _ (World.block_lt_of_cell? _ _ hHeld.1)).trans hHeld.1, (World.cell?_alloc_lt _ _ _ (World.block_lt_of_cell? _ _ hHeld.2.1)).trans hHeld.2.1, (World.cell?_alloc_lt _ _ _ (World.block_lt_of_cell? _ _ hHeld.2.2)).trans hHeld.2.2⟩ (fun hHeld => ?_)
  clear hK K
  refine norm_ (a' := ?_) ?_ ?_
  rotate_left
  · show Act.put _ (some 23) _ = _
    simp only [Act.put, List.setIfInBounds_toArray, List.set_cons_zero, List.set_cons_succ, i64_w, i32_w]
    rfl
  refine last_ (i := 9) (N := some 24) #[true, true, true, true, true, true, true, true, true, true, false, false, false] rfl rfl (by kernel_rfl) (by decide) (fun K hK => ?_)
  refine goes_ Try.func45 (by kernel_rfl) rfl #[.slice A n c, .int .i64 (p : Nat), .slice (some ⟨w2.heap.size, 0, none⟩) 1 1] (by rfl) rfl rfl (by simp only [List.map_toArray, List.map_cons, List.map_nil]; rfl) ?_
  with_reducible refine (HI.out).mono ?_
  rintro e w3 ⟨v1, rfl, hT, hM, hk2, hk3⟩
  refine ⟨_, rfl, ?_⟩
  obtain ⟨A1, c1, hv1⟩ := Tab.slice hT
  subst hv1
  have HT := Lib.hid (And.intro hT hM)
  clear hT hM
  refine hK.out _ _ ?_
  clear hK K
  refine norm_ (a' := ?_) ?_ ?_
  rotate_left
  · show Act.put _ (some 24) _ = _
    simp only [Act.put, List.setIfInBounds_toArray, List.set_cons_zero, List.set_cons_succ, i64_w, i32_w]
    rfl
  refine pure_ (i := 10) (N := some 25) (v := ?_) (a' := ?_) #[true, true, true, true, true, true, true, true, true, true, true, false, false] rfl rfl (by kernel_rfl) (fun _ _ _ h => h) (Or.inl ⟨by rfl, ?_⟩) ?_ ?_
  rotate_left
  · intro w'
    go_simp
    with_reducible rfl
  rotate_left
  · simp only [Act.put, List.setIfInBounds_toArray, List.set_cons_zero, List.set_cons_succ, i64_w, i32_w]
    rfl
  refine pure_ (i := 11) (N := some 26) (v := ?_) (a' := ?_) #[true, true, true, true, true, true, true, true, true, true, true, true, false] rfl rfl (by kernel_rfl) (fun _ _ _ h => h) (Or.inl ⟨by rfl, ?_⟩) ?_ ?_
  rotate_left
  · intro w'
    go_simp
    with_reducible rfl
  rotate_left
  · simp only [Act.put, List.setIfInBounds_toArray, List.set_cons_zero, List.set_cons_succ, i64_w, i32_w]
    rfl
  refine last_ (i := 12) (N := none) #[true, true, true, true, true, true, true, true, true, true, true, true, true] rfl rfl (by kernel_rfl) (by decide) (fun K hK => ?_)
  refine skip_ (w1 := ?_) (by rfl) rfl ?_ ?_
  rotate_left
  · go_simp
    rfl
  refine hK.out _ _ ?_
  clear hK K
  refine done_ (by kernel_rfl) ?_
  obtain ⟨b, rfl, hbc, hbn⟩ := Tab.block HT.out.1 (by have := HRL.out; omega)
  have hc9 : (w3.setCell ⟨g, 0, none⟩ (.slice (some ⟨b, 0, none⟩) R.length c1)).cell? ⟨g, 0, none⟩ = some (.slice (some ⟨b, 0, none⟩) R.length c1) := (blk_cell HT.out.1.1 0).trans rfl
  have hM := Lib.hid (Moved.trans_below HB3.out (Moved.trans_below (below_drew (below_alloc (Below.refl _ _) _)) HT.out.2))
  have hT := Lib.hid HT.out.1
  generalize w3.setCell ⟨g, 0, none⟩ (.slice (some ⟨b, 0, none⟩) R.length c1) = w4 at *
  have hin : (p : Int) < (R.length : Int) := by have := HRL.out; omega
  have hin2 : p < R.length := by have := HRL.out; omega
  clear HT hk2 hk3 hcc hk0 hk1
  go_wp2
  go_ret
  exact ⟨b, rfl, ⟨c1, hT.out⟩, hM.out⟩
end Go.Proofs.Ytfdfnmlbmijdjaa.Rt
