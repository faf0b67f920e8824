/-
  Package bus: a device's blocks; power, write, read.
  No conditions.
-/
import Derived.Test.YtpolofolibabiaaBusG
namespace Go.Proofs.Ytpolofolibabiaa.Bs
open Go Go.RowKit Go.Lib Go.Proofs.YtpolofolibabiaaW.PrintWords Go.Proofs.YtpolofolibabiaaW.PrintLast Go.Proofs.YtpolofolibabiaaW.PrintMore
set_option linter.unusedVariables false
set_option linter.unusedSimpArgs false
structure Dv where
  addr : Int
  id : Int
  list : List Rw
  on : Bool
  per : Int
  lost : Int
  next : Nat
  cnt : Int
  q : List Rw
instance : Inhabited Dv := ⟨⟨0, 0, [], false, 1, 0, 0, 0, []⟩⟩
structure Pl where
  d : Nat
  g : Nat
  b : Nat
  c : Nat
instance : Inhabited Pl := ⟨⟨0, 0, 0, 0⟩⟩
def FS (p : Pl) : Nat → Prop := fun k => k = p.d ∨ k = p.g ∨ k = p.b ∨ k = p.c
theorem RS_FS {p : Pl} (k : Nat) (h : RS p.g p.b p.c k) : FS p k := .inr h
/-- A device's list of samples. -/
def LstP (w : World) (lv : Value) (l : List Rw) : Prop := (l = [] ∧ lv = .slice none 0 0) ∨ ∃ m cap cs, lv = .slice (some ⟨m, 0, none⟩) l.length cap ∧ l.length ≤ cap ∧ w.heap[m]? = some (.cells cs 60 (0, 0)) ∧ ∀ j, j < l.length → ∀ k u, (enc l[j]!)[k]? = some u → cs[j * 4 + k]? = some u
theorem LstP.keep {w w' : World} {lv : Value} {l : List Rw} (h : LstP w lv l) (hk : ∀ m, lv.ownBlock = some m → w'.heap[m]? = w.heap[m]?) : LstP w' lv l := by
  rcases h with ⟨h1, h2⟩ | ⟨m, cap, cs, rfl, hc, hm, hl⟩
  · exact .inl ⟨h1, h2⟩
  · exact .inr ⟨m, cap, cs, rfl, hc, (hk m rfl).trans hm, hl⟩
def Dv.cells (x : Dv) (lv : Value) (g : Nat) : Array Value := #[.int .i64 x.addr, .int .i64 x.id, lv, .int .i64 x.addr, .bool x.on, .int .i64 x.per, .int .i64 0, .int .i64 x.lost, .int .i64 (x.next : Int), .int .i64 x.cnt, .pointer (some ⟨g, 0, none⟩)]
structure DevQ (w : World) (p : Pl) (lv : Value) (x : Dv) : Prop where
  head : w.heap[p.d]? = some (.cells (x.cells lv p.g) 83 (0, 0))
  ring : RingQ w p.g p.b p.c x.q
  list : LstP w lv x.list
  apart : lv.ownBlock ≠ some p.b
  old : ∀ m, lv.ownBlock = some m → m < w.heap.size
theorem ring_head {w : World} {g b c : Nat} {q : List Rw} (h : RingQ w g b c q) : ∃ v0 v1 v2, w.heap[g]? = some (.cells #[v0, v1, v2] 103 (0, 0)) := by obtain ⟨L, fr, h, _⟩ := h; exact ⟨_, _, _, h.head⟩
theorem ring_row {w : World} {g b c : Nat} {q : List Rw} (h : RingQ w g b c q) : ∃ cs, w.heap[b]? = some (.cells cs 60 (0, 0)) := by obtain ⟨L, fr, h, _⟩ := h; exact ⟨_, h.row⟩
theorem ring_chan {w : World} {g b c : Nat} {q : List Rw} (h : RingQ w g b c q) : ∃ x0 x1 x2 x3 x4 x5, w.heap[c]? = some (.chan x0 x1 x2 x3 x4 x5) := by obtain ⟨L, fr, h, _⟩ := h; obtain ⟨_, _, _, hc, _⟩ := h.chan; exact ⟨_, _, _, _, _, _, hc⟩
/-- A device's block is none of its ring's. -/
theorem DevQ.d_ne {w : World} {p : Pl} {lv : Value} {x : Dv} (h : DevQ w p lv x) : ¬ RS p.g p.b p.c p.d := by
  have hh := h.head
  rintro (e | e | e)
  · obtain ⟨_, _, _, k⟩ := ring_head h.ring
    rw [e, k] at hh
    simp at hh
  · obtain ⟨_, k⟩ := ring_row h.ring
    rw [e, k] at hh
    simp at hh
  · obtain ⟨_, _, _, _, _, _, k⟩ := ring_chan h.ring
    rw [e, k] at hh
    simp at hh
/-- The list's row is none of the device's other blocks. -/
theorem DevQ.m_ne {w : World} {p : Pl} {lv : Value} {x : Dv} (h : DevQ w p lv x) (m : Nat) (hm : lv.ownBlock = some m) : ¬ FS p m := by
  have hr : ∃ cs, w.heap[m]? = some (.cells cs 60 (0, 0)) := by
    rcases h.list with ⟨_, rfl⟩ | ⟨m', cap, cs, rfl, _, h2, _⟩
    · simp [Value.ownBlock] at hm
    · simp only [Value.ownBlock, Option.some.injEq] at hm
      exact ⟨cs, hm ▸ h2⟩
  obtain ⟨cs, hr⟩ := hr
  rintro (e | e | e | e)
  · rw [e, h.head] at hr
    simp at hr
  · obtain ⟨_, _, _, k⟩ := ring_head h.ring
    rw [e, k] at hr
    simp at hr
  · exact h.apart (hm.trans (congrArg some e))
  · obtain ⟨_, _, _, _, _, _, k⟩ := ring_chan h.ring
    rw [e, k] at hr
    simp at hr
theorem DevQ.keep {S : Nat → Prop} {w w' : World} {p : Pl} {lv : Value} {x : Dv} (h : DevQ w p lv x) (hf : Fr S w w') (hd : ¬ S p.d) (hg : ¬ S p.g) (hb : ¬ S p.b) (hc : ¬ S p.c) (hm : ∀ m, lv.ownBlock = some m → ¬ S m) : DevQ w' p lv x :=
  ⟨hf.blk h.head hd, h.ring.fr hf hg hb hc, h.list.keep fun m hm' => hf.block m (h.old m hm') (hm m hm'), h.apart, fun m hm' => Nat.lt_of_lt_of_le (h.old m hm') hf.size⟩
theorem DevQ.below {w w' : World} {p : Pl} {lv : Value} {x : Dv} (h : DevQ w p lv x) (hb : Below w.heap.size w w') : DevQ w' p lv x :=
  h.keep (S := fun _ => False) (Fr.of_below hb) id id id id (fun _ _ => id)
theorem DevQ.drewN {w : World} {p : Pl} {lv : Value} {x : Dv} (h : DevQ w p lv x) (n : Nat) : DevQ (w.drewN n) p lv x := ⟨h.head, h.ring.drewN n, h.list.keep fun _ _ => rfl, h.apart, h.old⟩
theorem DevQ.drew {w : World} {p : Pl} {lv : Value} {x : Dv} (h : DevQ w p lv x) : DevQ w.drew p lv x := h.drewN 1
/-- Behind a step that changed the device's own blocks alone. -/
theorem DevQ.turn {w w' : World} {p : Pl} {lv : Value} {x y : Dv} (h : DevQ w p lv x) (hf : Fr (FS p) w w') (hh : w'.heap[p.d]? = some (.cells (y.cells lv p.g) 83 (0, 0))) (hr : RingQ w' p.g p.b p.c y.q) (hl : y.list = x.list) : DevQ w' p lv y :=
  ⟨hh, hr, by rw [hl]; exact h.list.keep fun m hm => hf.block m (h.old m hm) (h.m_ne m hm), h.apart, fun m hm => Nat.lt_of_lt_of_le (h.old m hm) hf.size⟩
theorem put_at {w : World} {d t : Nat} {cs : Array Value} (h : w.heap[d]? = some (.cells cs t (0, 0))) (i : Nat) (v : Value) : (w.setCell ⟨d, i, none⟩ v).heap[d]? = some (.cells (cs.setIfInBounds i v) t (0, 0)) := by
  simp [World.setCell, Array.getElem?_modify, h]
theorem DevQ.at {w : World} {p : Pl} {lv : Value} {x : Dv} (h : DevQ w p lv x) : w.cell? ⟨p.d, 0, none⟩ = some (.int .i64 x.addr) ∧ w.cell? ⟨p.d, 1, none⟩ = some (.int .i64 x.id) ∧ w.cell? ⟨p.d, 2, none⟩ = some lv ∧ w.cell? ⟨p.d, 3, none⟩ = some (.int .i64 x.addr) ∧ w.cell? ⟨p.d, 4, none⟩ = some (.bool x.on) ∧ w.cell? ⟨p.d, 5, none⟩ = some (.int .i64 x.per) ∧ w.cell? ⟨p.d, 6, none⟩ = some (.int .i64 0) ∧ w.cell? ⟨p.d, 7, none⟩ = some (.int .i64 x.lost) ∧ w.cell? ⟨p.d, 8, none⟩ = some (.int .i64 (x.next : Int)) ∧ w.cell? ⟨p.d, 9, none⟩ = some (.int .i64 x.cnt) ∧ w.cell? ⟨p.d, 10, none⟩ = some (.pointer (some ⟨p.g, 0, none⟩)) :=
  ⟨(blk_cell h.head 0).trans rfl, (blk_cell h.head 1).trans rfl, (blk_cell h.head 2).trans rfl, (blk_cell h.head 3).trans rfl, (blk_cell h.head 4).trans rfl, (blk_cell h.head 5).trans rfl, (blk_cell h.head 6).trans rfl, (blk_cell h.head 7).trans rfl, (blk_cell h.head 8).trans rfl, (blk_cell h.head 9).trans rfl, (blk_cell h.head 10).trans rfl⟩
theorem DevQ.fz {w : World} {p : Pl} {lv : Value} {x : Dv} (h : DevQ w p lv x) (j : Nat) : w.frozen? ⟨p.d, j, none⟩ = false := row_frozen h.head j
def Dv.power (x : Dv) (on : Bool) : Dv := if on then (if x.on then x else { x with on := true, cnt := 0 }) else { x with on := false, q := [] }
def Dv.write (x : Dv) (reg b : Int) : Dv := if reg = 1 then x.power (b % 2 == 1) else if reg = 2 then { x with per := if b = 0 then 256 else b } else if reg = 5 ∧ b = 182 then { x.power false with per := 1 } else x
def Dv.read (x : Dv) (reg : Int) : Int := if reg = 0 then x.id % 256 else if reg = 1 then (if x.on then 1 else 0) else if reg = 2 then x.per % 256 else if reg = 3 then (x.q.length : Int) else 0
theorem Fr.put1 {S : Nat → Prop} {w : World} (p : Addr) (v : Value) (hp : S p.block) : Fr S w (w.setCell p v) := (Fr.refl S w).put p v hp
set_option maxHeartbeats 4000000 in
set_option maxRecDepth 100000 in
theorem power_ (w : World) (p : Pl) (lv : Value) (x : Dv) (h : DevQ w p lv x) (on : Bool) : Calls Try.prog 53 #[.pointer (some ⟨p.d, 0, none⟩), .bool on] w fun e w' => e = .returned (.tuple #[]) ∧ DevQ w' p lv (x.power on) ∧ Fr (FS p) w w' := by
  obtain ⟨z0, z1, z2, z3, z4, z5, z6, z7, z8, z9, z10⟩ := h.at
  have f4 := h.fz 4
  have f9 := h.fz 9
  have H := Aside0.mk h
  clear h
  cases on with
  | false =>
    have h1 : Fr (FS p) w (w.setCell ⟨p.d, 4, none⟩ (.bool false)) := Fr.put1 _ _ (.inl rfl)
    have hr : RingQ (w.setCell ⟨p.d, 4, none⟩ (.bool false)) p.g p.b p.c x.q := by
      have hf : Fr (fun k => k = p.d) w (w.setCell ⟨p.d, 4, none⟩ (.bool false)) := Fr.put1 _ _ rfl
      have hn := H.out.d_ne
      exact H.out.ring.fr hf (fun e => hn (.inl e.symm)) (fun e => hn (.inr (.inl e.symm))) (fun e => hn (.inr (.inr e.symm)))
    have hcl := clearQ _ _ _ _ _ hr
    have HC := Aside0.mk hcl
    have H1 := Aside0.mk h1
    have hh := put_at H.out.head 4 (.bool false)
    have HH := Aside0.mk hh
    clear h1 hr hcl hh
    go_enter Try.func53, Try.ntmps53
    go_wp2_with (go_at_call 57; with_reducible refine HC.out.mono ?_; rintro e w2 ⟨rfl, hq, hf⟩; have HQ := Aside0.mk hq; have HF := Aside0.mk hf; clear hq hf)
    go_end0
    have hf2 : Fr (FS p) w w2 := H1.out.trans (HF.out.mono RS_FS)
    exact ⟨rfl, H.out.turn hf2 (HF.out.blk HH.out H.out.d_ne) HQ.out rfl, hf2⟩
  | true =>
    cases ho : x.on with
    | true =>
      rw [ho] at z4
      have HO := Aside0.mk ho
      clear ho
      go_enter Try.func53, Try.ntmps53
      go_wp2
      go_end0
      refine ⟨rfl, ?_, Fr.refl _ _⟩
      rw [show x.power true = x by simp [Dv.power, HO.out]]
      exact H.out
    | false =>
      rw [ho] at z4
      have HO := Aside0.mk ho
      clear ho
      go_enter Try.func53, Try.ntmps53
      go_wp2
      go_end0
      have hf : Fr (FS p) w ((w.setCell ⟨p.d, 4, none⟩ (.bool true)).setCell ⟨p.d, 9, none⟩ (.int .i64 0)) := (Fr.put1 _ _ (.inl rfl)).put _ _ (.inl rfl)
      have hf' : Fr (fun k => k = p.d) w ((w.setCell ⟨p.d, 4, none⟩ (.bool true)).setCell ⟨p.d, 9, none⟩ (.int .i64 0)) := Fr.put (Fr.put1 (S := fun k => k = p.d) _ _ rfl) _ _ rfl
      have hn := H.out.d_ne
      refine ⟨rfl, H.out.turn hf ?_ ?_ ?_, hf⟩
      · rw [put_at (put_at H.out.head 4 (.bool true)) 9 (.int .i64 0)]
        simp [Dv.power, HO.out, Dv.cells]
      · rw [show (x.power true).q = x.q by simp [Dv.power, HO.out]]
        exact H.out.ring.fr hf' (fun e => hn (.inl e.symm)) (fun e => hn (.inr (.inl e.symm))) (fun e => hn (.inr (.inr e.symm)))
      · simp [Dv.power, HO.out]
end Go.Proofs.Ytpolofolibabiaa.Bs
