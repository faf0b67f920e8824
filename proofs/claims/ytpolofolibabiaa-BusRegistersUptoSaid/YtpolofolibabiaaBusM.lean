/-
  Package bus: a bus' blocks; find, Count.
  No conditions.
-/
import Derived.Test.YtpolofolibabiaaBusL
namespace Go.Proofs.Ytpolofolibabiaa.Bs
open Go Go.RowKit Go.Lib Go.Proofs.YtpolofolibabiaaW.PrintWords Go.Proofs.YtpolofolibabiaaW.PrintLast Go.Proofs.YtpolofolibabiaaW.PrintMore
set_option linter.unusedVariables false
set_option linter.unusedSimpArgs false
structure Fl where
  at_ : Int
  kind : Int
  idx : Int
  xor : Int
instance : Inhabited Fl := ⟨⟨0, 0, 0, 0⟩⟩
def Fl.no : Fl := ⟨0, 0, 0, 0⟩
def encF (f : Fl) : Value := .agg #[.int .i64 f.at_, .int .i64 f.kind, .int .i64 f.idx, .int .u8 f.xor]
structure Bd where
  p : Pl
  lv : Value
  x : Dv
instance : Inhabited Bd := ⟨⟨default, .slice none 0 0, default⟩⟩
def Rg (lo hi : Nat) : Nat → Prop := fun k => lo ≤ k ∧ k < hi
def keyIs (k : Int) (e : MapEntry) : Bool := match e.key with
  | .int .i64 n => n == k
  | _ => false
/-- The map's entries: of each number that a fault is at the first one. -/
def MapF (es : Array MapEntry) (F : List Fl) : Prop := (∀ e ∈ es.toList, ∃ k, e.key = .int .i64 k) ∧ ∀ k : Int, (es.toList.find? (keyIs k)).map (·.val) = (F.find? (fun f => decide (f.at_ = k))).map encF
def RowP (w : World) (lo hi : Nat) (rv : Value) (ds : List Bd) : Prop := (ds = [] ∧ rv = .slice none 0 0) ∨ ∃ b cap cs, rv = .slice (some ⟨b, 0, none⟩) ds.length cap ∧ ds.length ≤ cap ∧ Rg lo hi b ∧ w.heap[b]? = some (.cells cs 77 (0, 0)) ∧ ∀ j, j < ds.length → cs[j]? = some (.pointer (some ⟨ds[j]!.p.d, 0, none⟩))
structure BusS (w : World) (lo hi r : Nat) (ds : List Bd) (F : List Fl) (cnt : Int) : Prop where
  head : ∃ rv fm, w.heap[r]? = some (.cells #[rv, .map (some fm), .int .i64 cnt] 75 (0, 0)) ∧ RowP w lo hi rv ds ∧ Rg lo hi fm ∧ ∃ es ck, w.heap[fm]? = some (.map es ck) ∧ MapF es F
  rr : Rg lo hi r
  top : hi ≤ w.heap.size
  dev : ∀ j, j < ds.length → DevQ w ds[j]!.p ds[j]!.lv ds[j]!.x ∧ ds[j]!.x.Ok ∧ (∀ k, FS ds[j]!.p k → Rg lo hi k) ∧ ∀ m, ds[j]!.lv.ownBlock = some m → Rg lo hi m
  apart : ∀ i j, i < ds.length → j < ds.length → i ≠ j → ∀ k, FS ds[i]!.p k → ¬ FS ds[j]!.p k ∧ ds[j]!.lv.ownBlock ≠ some k
  few : ds.length ≤ 8
theorem RowP.keep {w w' : World} {lo hi : Nat} {rv : Value} {ds : List Bd} (h : RowP w lo hi rv ds) (hk : ∀ b cs, Rg lo hi b → w.heap[b]? = some (.cells cs 77 (0, 0)) → w'.heap[b]? = some (.cells cs 77 (0, 0))) : RowP w' lo hi rv ds := by
  rcases h with h | ⟨b, cap, cs, h1, h2, h3, h4, h5⟩
  · exact .inl h
  · exact .inr ⟨b, cap, cs, h1, h2, h3, hk b cs h3 h4, h5⟩
/-- Whoever changes nothing between lo and hi keeps the bus. -/
theorem BusS.keep {S : Nat → Prop} {w w' : World} {lo hi r : Nat} {ds : List Bd} {F : List Fl} {cnt : Int} (h : BusS w lo hi r ds F cnt) (hf : Fr S w w') (hs : ∀ k, Rg lo hi k → ¬ S k) : BusS w' lo hi r ds F cnt := by
  obtain ⟨rv, fm, h1, h2, h3, es, ck, h4, h5⟩ := h.head
  refine ⟨⟨rv, fm, hf.blk h1 (hs r h.rr), h2.keep fun b cs hb hc => hf.blk hc (hs b hb), h3, es, ck, hf.blk h4 (hs fm h3), h5⟩, h.rr, Nat.le_trans h.top hf.size, fun j hj => ?_, h.apart, h.few⟩
  obtain ⟨k1, k2, k3, k4⟩ := h.dev j hj
  exact ⟨k1.keep hf (hs _ (k3 _ (.inl rfl))) (hs _ (k3 _ (.inr (.inl rfl)))) (hs _ (k3 _ (.inr (.inr (.inl rfl))))) (hs _ (k3 _ (.inr (.inr (.inr rfl))))) (fun m hm => hs m (k4 m hm)), k2, k3, k4⟩
theorem BusS.below {w w' : World} {lo hi r : Nat} {ds : List Bd} {F : List Fl} {cnt : Int} (h : BusS w lo hi r ds F cnt) (hb : Below w.heap.size w w') : BusS w' lo hi r ds F cnt :=
  h.keep (S := fun _ => False) (Fr.of_below hb) (fun _ _ => id)
theorem BusS.drewN {w : World} {lo hi r : Nat} {ds : List Bd} {F : List Fl} {cnt : Int} (h : BusS w lo hi r ds F cnt) (n : Nat) : BusS (w.drewN n) lo hi r ds F cnt :=
  h.keep (S := fun _ => False) ((Fr.refl _ w).drewN n) (fun _ _ => id)
theorem BusS.drew {w : World} {lo hi r : Nat} {ds : List Bd} {F : List Fl} {cnt : Int} (h : BusS w lo hi r ds F cnt) : BusS w.drew lo hi r ds F cnt := h.drewN 1
/-- One device has changed. -/
theorem BusS.one {w w' : World} {lo hi r : Nat} {ds : List Bd} {F : List Fl} {cnt : Int} (h : BusS w lo hi r ds F cnt) (i : Nat) (hi' : i < ds.length) (hf : Fr (FS ds[i]!.p) w w') (y : Dv) (hd : DevQ w' ds[i]!.p ds[i]!.lv y) (hy : y.Ok) : BusS w' lo hi r (ds.set i { ds[i]! with x := y }) F cnt ∧ Fr (Rg lo hi) w w' := by
  obtain ⟨rv, fm, h1, h2, h3, es, ck, h4, h5⟩ := h.head
  obtain ⟨k1, k2, k3, k4⟩ := h.dev i hi'
  have hget : ∀ j, j < ds.length → (ds.set i { ds[i]! with x := y })[j]! = if j = i then { ds[i]! with x := y } else ds[j]! := fun j hj => by
    rw [getElem!_pos _ j (by rw [List.length_set]; exact hj), List.getElem_set]
    by_cases hji : j = i
    · rw [if_pos hji.symm, if_pos hji]
    · rw [if_neg (Ne.symm hji), if_neg hji, getElem!_pos ds j hj]
  have hp : ∀ j, j < ds.length → (ds.set i { ds[i]! with x := y })[j]!.p = ds[j]!.p ∧ (ds.set i { ds[i]! with x := y })[j]!.lv = ds[j]!.lv := fun j hj => by
    rw [hget j hj]
    split
    · rename_i e
      rw [e]
      exact ⟨rfl, rfl⟩
    · exact ⟨rfl, rfl⟩
  have hnot : ∀ k (o : Obj), w.heap[k]? = some o → (∀ cs, o ≠ .cells cs 83 (0, 0)) → (∀ cs, o ≠ .cells cs 103 (0, 0)) → (∀ cs, o ≠ .cells cs 60 (0, 0)) → (∀ a b c d e f, o ≠ .chan a b c d e f) → ¬ FS ds[i]!.p k := by
    intro k o ho n1 n2 n3 n4 hk
    rcases hk with rfl | rfl | rfl | rfl
    · exact n1 _ (Option.some.inj (ho.symm.trans k1.head))
    · obtain ⟨_, _, _, q⟩ := ring_head k1.ring
      exact n2 _ (Option.some.inj (ho.symm.trans q))
    · obtain ⟨_, q⟩ := ring_row k1.ring
      exact n3 _ (Option.some.inj (ho.symm.trans q))
    · obtain ⟨_, _, _, _, _, _, q⟩ := ring_chan k1.ring
      exact n4 _ _ _ _ _ _ (Option.some.inj (ho.symm.trans q))
  have hrow : RowP w' lo hi rv (ds.set i { ds[i]! with x := y }) := by
    have h2' := h2.keep (w' := w') fun b cs hb hc => hf.blk hc (hnot b _ hc (by intro c e; injection e with _ e; exact absurd e (by decide)) (by intro c e; injection e with _ e; exact absurd e (by decide)) (by intro c e; injection e with _ e; exact absurd e (by decide)) (by intro _ _ _ _ _ _ e; cases e))
    rcases h2' with ⟨e1, e2⟩ | ⟨b, cap, cs, e1, e2, e3, e4, e5⟩
    · rw [e1] at hi'
      exact absurd hi' (Nat.not_lt_zero i)
    · exact .inr ⟨b, cap, cs, by rw [List.length_set]; exact e1, by rw [List.length_set]; exact e2, e3, e4, fun j hj => by rw [List.length_set] at hj; rw [(hp j hj).1]; exact e5 j hj⟩
  refine ⟨⟨⟨rv, fm, hf.blk h1 (hnot r _ h1 (by intro c e; injection e with _ e; exact absurd e (by decide)) (by intro c e; injection e with _ e; exact absurd e (by decide)) (by intro c e; injection e with _ e; exact absurd e (by decide)) (by intro _ _ _ _ _ _ e; cases e)), hrow, h3, es, ck, hf.blk h4 (hnot fm _ h4 (by intro c e; cases e) (by intro c e; cases e) (by intro c e; cases e) (by intro _ _ _ _ _ _ e; cases e)), h5⟩, h.rr, Nat.le_trans h.top hf.size, fun j hj => ?_, fun a b ha hb hne k hk => ?_, by rw [List.length_set]; exact h.few⟩, hf.mono k3⟩
  · rw [List.length_set] at hj
    by_cases hji : j = i
    · rw [hget j hj, if_pos hji]
      exact ⟨hd, hy, k3, k4⟩
    · rw [hget j hj, if_neg hji]
      obtain ⟨m1, m2, m3, m4⟩ := h.dev j hj
      have hap := h.apart i j hi' hj (Ne.symm hji)
      have hap2 := h.apart j i hj hi' hji
      refine ⟨m1.keep hf (fun e => (hap _ e).1 (.inl rfl)) (fun e => (hap _ e).1 (.inr (.inl rfl))) (fun e => (hap _ e).1 (.inr (.inr (.inl rfl)))) (fun e => (hap _ e).1 (.inr (.inr (.inr rfl)))) (fun m hm e => (hap m e).2 hm), m2, m3, m4⟩
  · rw [List.length_set] at ha hb
    rw [(hp a ha).1] at hk
    rw [(hp b hb).1, (hp b hb).2]
    exact h.apart a b ha hb hne k hk
theorem RowP.slice {w : World} {lo hi : Nat} {rv : Value} {ds : List Bd} (h : RowP w lo hi rv ds) : ∃ A cap, rv = .slice A ds.length cap ∧ ∀ j, j < ds.length → ∃ b, A = some ⟨b, 0, none⟩ ∧ w.cell? ⟨b, j, none⟩ = some (.pointer (some ⟨ds[j]!.p.d, 0, none⟩)) := by
  rcases h with ⟨rfl, rfl⟩ | ⟨b, cap, cs, rfl, _, _, h4, h5⟩
  · exact ⟨none, 0, rfl, fun j hj => absurd hj (Nat.not_lt_zero j)⟩
  · exact ⟨_, cap, rfl, fun j hj => ⟨b, rfl, (blk_cell h4 j).trans (h5 j hj)⟩⟩
def fi (ds : List Bd) (a : Int) : Nat := ds.findIdx (fun d => decide (d.x.addr = a))
def ptrAt (ds : List Bd) (i : Nat) : Value := if i < ds.length then .pointer (some ⟨ds[i]!.p.d, 0, none⟩) else .pointer none
set_option maxHeartbeats 8000000 in
set_option maxRecDepth 100000 in
theorem find_ (w : World) (lo hi r : Nat) (ds : List Bd) (F : List Fl) (cnt : Int) (h : BusS w lo hi r ds F cnt) (a : Int) : Calls Try.prog 31 #[.pointer (some ⟨r, 0, none⟩), .int .i64 a] w fun e w' => e = .returned (ptrAt ds (fi ds a)) ∧ w' = w := by
  obtain ⟨rv, fm, h1, h2, _⟩ := h.head
  obtain ⟨A, cap, rfl, hA⟩ := h2.slice
  have c0 : w.cell? ⟨r, 0, none⟩ = some (.slice A ds.length cap) := (blk_cell h1 0).trans rfl
  have HA := Aside0.mk hA
  have HD := Aside0.mk (show ∀ j, j < ds.length → w.cell? ⟨ds[j]!.p.d, 0, none⟩ = some (.int .i64 ds[j]!.x.addr) from fun j hj => (h.dev j hj).1.at.1)
  have hfew := h.few
  clear h h1 h2 hA
  go_enter Try.func31, Try.ntmps31
  go_wp2_with fail
  refine Cu.wp_loop (Cu.rep 6 Cu.f (Cu.rep 1 Cu.t (Cu.rep 5 Cu.f (Cu.rep 13 Cu.t [])))) 14 (fun kq us_ w' => ∃ i : Nat, (Cu.nth us_ 1) = .int .i64 (i : Int) ∧ Aside0 (kq + i = ds.length) ∧ Aside0 (w' = w) ∧ Aside0 (∀ j, j < i → ds[j]!.x.addr ≠ a)) ds.length ?_ (by kernel_rfl) (by kernel_rfl) ?_
  · try dsimp only [Cu.pick, Cu.rep, Cu.nth]
    exact ⟨0, rfl, ⟨rfl⟩, ⟨rfl⟩, ⟨fun j hj => absurd hj (Nat.not_lt_zero j)⟩⟩
  · intro gk wr u6 u12 u13 u14 u15 u16 u17 u18 u19 u20 u21 u22 u23 u24
    try dsimp only [Cu.over, Cu.rep, Cu.nth]
    intro hrel _ _ _ _
    obtain ⟨i, rfl, HK, ⟨rfl⟩, HN⟩ := hrel
    by_cases hi : i < ds.length
    · have hid : decide ((i : Int) < (ds.length : Int)) = true := decide_eq_true (by omega)
      obtain ⟨b, rfl, hc⟩ := HA.out i hi
      have hx := HD.out i hi
      have hii : (i : Int) < (ds.length : Int) := by omega
      obtain ⟨q, hq⟩ : ∃ q, q = ds[i]! := ⟨_, rfl⟩
      rw [← hq] at hc hx
      have HQ := Aside0.mk hq
      clear hq
      by_cases he : q.x.addr = a
      · have hed : (q.x.addr == a) = true := by rw [he]; exact beq_self_eq_true a
        have HE := Aside0.mk (show fi ds a = i from by
          unfold fi
          rw [List.findIdx_eq hi]
          refine ⟨by rw [HQ.out, getElem!_pos ds i hi] at he; simpa using he, fun j hj => ?_⟩
          have := HN.out j hj
          rw [getElem!_pos ds j (by omega)] at this
          simpa using this)
        clear he
        go_wp2
        go_ret
        refine ⟨?_, rfl⟩
        rw [HE.out]
        unfold ptrAt
        rw [if_pos hi, ← HQ.out]
        rfl
      · have hed : (q.x.addr == a) = false := beq_eq_false_iff_ne.mpr he
        have HE := Aside0.mk he
        clear he
        go_wp2
        have hk := HK.out
        refine Cu.handed (ds.length - (i + 1)) (by omega) (by assumption) ?_ (by kernel_rfl) (by kernel_rfl)
        try dsimp only [Cu.pick, Cu.rep, Cu.nth]
        refine ⟨i + 1, by rw [Int.natCast_add]; rfl, ⟨by omega⟩, ⟨rfl⟩, ⟨fun j hj => ?_⟩⟩
        by_cases hji : j = i
        · rw [hji, ← HQ.out]
          exact HE.out
        · exact HN.out j (by omega)
    · have hid : decide ((i : Int) < (ds.length : Int)) = false := decide_eq_false (by omega)
      go_wp2
      go_ret
      refine ⟨?_, rfl⟩
      have hnl : ¬ fi ds a < ds.length := by
        unfold fi
        rw [List.findIdx_lt_length]
        rintro ⟨x, hx, hxa⟩
        obtain ⟨j, hj, rfl⟩ := List.mem_iff_getElem.1 hx
        have := HN.out j (by omega)
        rw [getElem!_pos ds j hj] at this
        exact this (by simpa using hxa)
      unfold ptrAt
      rw [if_neg hnl]
      rfl
set_option maxHeartbeats 4000000 in
theorem count_ (w : World) (lo hi r : Nat) (ds : List Bd) (F : List Fl) (cnt : Int) (h : BusS w lo hi r ds F cnt) : Calls Try.prog 26 #[.pointer (some ⟨r, 0, none⟩)] w fun e w' => e = .returned (.int .i64 cnt) ∧ w' = w := by
  obtain ⟨rv, fm, h1, h2, _⟩ := h.head
  have c2 : w.cell? ⟨r, 2, none⟩ = some (.int .i64 cnt) := (blk_cell h1 2).trans rfl
  clear h h1 h2
  go_enter Try.func26, Try.ntmps26
  go_wp2
  go_ret
  exact ⟨rfl, rfl⟩
end Go.Proofs.Ytpolofolibabiaa.Bs
