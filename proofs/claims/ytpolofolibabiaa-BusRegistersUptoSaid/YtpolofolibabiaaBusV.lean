/-
  Package bus with one device and without faults.
  No conditions.
-/
import Derived.Test.YtpolofolibabiaaBusT
namespace Go.Proofs.Ytpolofolibabiaa.Bs
open Go Go.RowKit Go.Lib Go.Proofs.YtpolofolibabiaaW.PrintWords Go.Proofs.YtpolofolibabiaaW.PrintLast Go.Proofs.YtpolofolibabiaaW.PrintMore
set_option linter.unusedVariables false
set_option linter.unusedSimpArgs false
theorem bytes_C {w : World} {g t : Nat} {cs : Array Value} {bs : List Int} (hg : w.heap[g]? = some (.cells cs t (0, 0))) (hcs : ∀ j, j < bs.length → cs[j]? = some (.int .u8 bs[j]!)) (hl : bs.length ≤ 9223372036854775807) : Kd.C (Kd.int .u8) w (some ⟨g, 0, none⟩) bs.length bs := by
  refine ⟨rfl, hl, fun _ => ⟨_, rfl, fun j p hj => ⟨[.int .u8 p], rfl, rfl, fun i u hu => ?_⟩⟩⟩
  have hjl := (List.getElem?_eq_some_iff.1 hj).1
  have hp : bs[j]! = p := by rw [getElem!_pos bs j hjl]; exact (List.getElem?_eq_some_iff.1 hj).2
  cases i with
  | zero =>
    simp only [List.getElem?_cons_zero, Option.some.injEq] at hu
    subst hu
    have ha : (⟨g, 0, none⟩ : Addr).add (j * (Kd.int .u8).sz + 0) = ⟨g, j, none⟩ := by rw [add_at]; simp [Kd.int, Kd.scalar]
    rw [ha]
    refine (blk_cell hg j).trans ?_
    rw [hcs j hjl, hp]
  | succ i => simp at hu
theorem nil_C (w : World) : Kd.C (Kd.int .u8) w none 0 ([] : List Int) := ⟨rfl, by decide, fun h => absurd h (Nat.lt_irrefl 0)⟩
theorem ByteRow.C {w : World} {b : Nat} {A : Option Addr} {n c : Nat} {bs : List Int} (h : ByteRow w b (.slice A n c) bs) (hl : bs.length ≤ 9223372036854775807) : n = bs.length ∧ bs.length ≤ c ∧ Kd.C (Kd.int .u8) w A bs.length bs := by
  rcases h with ⟨h1, rfl⟩ | ⟨g, cap, cs, h1, h2, h3, h4, h5⟩
  · simp only [Value.slice.injEq] at h1
    obtain ⟨rfl, rfl, rfl⟩ := h1
    exact ⟨rfl, Nat.le_refl _, nil_C w⟩
  · simp only [Value.slice.injEq] at h1
    obtain ⟨rfl, rfl, rfl⟩ := h1
    exact ⟨rfl, h4, bytes_C h3 h5 hl⟩
theorem ByteRow.keep {S : Nat → Prop} {w w' : World} {b : Nat} {v : Value} {bs : List Int} (h : ByteRow w b v bs) (hf : Fr S w w') (hs : ∀ k, b ≤ k → ¬ S k) : ByteRow w' b v bs := by
  rcases h with h | ⟨g, cap, cs, h1, h2, h3, h4, h5⟩
  · exact .inl h
  · exact .inr ⟨g, cap, cs, h1, h2, hf.blk h3 (hs g h2), h4, h5⟩
theorem ByteRow.below {w w' : World} {b : Nat} {v : Value} {bs : List Int} (h : ByteRow w b v bs) (hb : Below w.heap.size w w') : ByteRow w' b v bs := h.keep (S := fun _ => False) (Fr.of_below hb) (fun _ _ => id)
theorem doR_one (D : Bd) (reg : Int) (wl : List Int) (n : Nat) : doR [D] Fl.no D.x.addr reg wl n = (1, D.x.doesB reg wl n, [{ D with x := D.x.doesD reg wl n }]) := by
  have hf : fi [D] D.x.addr = 0 := by unfold fi; simp [List.findIdx_cons]
  unfold doR
  rw [hf]
  rw [if_neg (by rintro (e | e); · exact absurd e (by decide)
                 · exact e (by simp))]
  rw [if_neg (by decide), if_neg (fun e => absurd e.1 (by decide))]
  rfl
theorem do1_ (w : World) (lo hi r : Nat) (D : Bd) (cnt : Int) (h : BusS w lo hi r [D] [] cnt) (hc0 : 0 ≤ cnt) (hc1 : cnt < 4611686018427387904) (ad reg : Int) (had : D.x.addr = ad) (A : Option Addr) (c : Nat) (wl : List Int) (n : Nat) (hg : GoodTx ad reg wl n) (hby : ∀ i : Nat, i < wl.length → 0 ≤ rd wl i ∧ rd wl i < 256) (hcap : wl.length ≤ c) (hC : ∀ W, Fr (Rg lo hi) w W → Kd.C (Kd.int .u8) W A wl.length wl) : Calls Try.prog 12 #[.pointer (some ⟨r, 0, none⟩), .agg #[.int .i64 ad, .int .i64 reg, .slice A wl.length c, .int .i64 (n : Int)]] w fun e w' => ∃ v, e = .returned (.tuple #[.agg #[.int .i64 1, v], .int .i64 0]) ∧ ByteRow w' w.heap.size v (D.x.doesB reg wl n) ∧ BusS w' lo hi r [{ D with x := D.x.doesD reg wl n }] [] (cnt + 1) ∧ Fr (Rg lo hi) w w' := by
  have h1 := do_ w lo hi r [D] [] cnt h hc0 hc1 ad reg A c wl n hg hby hcap hC (Int.le_refl 0) (show (0 : Int) < 9223372036854775808 by decide)
  have hf : faultAt [] (cnt + 1) = Fl.no := rfl
  rw [hf, ← had, doR_one] at h1
  rw [← had]
  exact h1
/-- A read. -/
theorem doRd_ (w : World) (lo hi r : Nat) (D : Bd) (cnt : Int) (h : BusS w lo hi r [D] [] cnt) (hc0 : 0 ≤ cnt) (hc1 : cnt < 4611686018427387904) (ad reg : Int) (had : D.x.addr = ad) (n : Nat) (ni : Int) (hni : ni = (n : Int)) (hg : GoodTx ad reg [] n) (bs : List Int) (hbs : D.x.doesB reg [] n = bs) (L : Nat) (hL : bs.length = L) (y : Dv) (hy : D.x.doesD reg [] n = y) : Calls Try.prog 12 #[.pointer (some ⟨r, 0, none⟩), .agg #[.int .i64 ad, .int .i64 reg, .slice none 0 0, .int .i64 ni]] w fun e w' => ∃ A c, e = .returned (.tuple #[.agg #[.int .i64 1, .slice A L c], .int .i64 0]) ∧ Aside0 (ByteRow w' w.heap.size (.slice A L c) bs) ∧ Aside0 (BusS w' lo hi r [{ D with x := y }] [] (cnt + 1)) ∧ Aside0 (Fr (Rg lo hi) w w') := by
  subst hni hbs hL hy
  exact (do1_ w lo hi r D cnt h hc0 hc1 ad reg had none 0 [] n hg (fun i hi => absurd hi (Nat.not_lt_zero i)) (Nat.le_refl _) (fun W _ => nil_C W)).mono fun e w' ⟨v, he, hb, hs, hf⟩ => by
    obtain ⟨A, c, rfl⟩ := hb.slice
    exact ⟨A, c, he, ⟨hb⟩, ⟨hs⟩, ⟨hf⟩⟩
theorem doesB_wr (x : Dv) (reg : Int) (wl : List Int) (n : Nat) (h : 0 < wl.length) : x.doesB reg wl n = [] := by unfold Dv.doesB; rw [if_pos h]
/-- A write of one byte, of two: the row is new. -/
theorem doW1_ (w : World) (lo hi r : Nat) (D : Bd) (cnt : Int) (h : BusS w lo hi r [D] [] cnt) (hc0 : 0 ≤ cnt) (hc1 : cnt < 4611686018427387904) (ad reg : Int) (had : D.x.addr = ad) (x : Int) (hx0 : 0 ≤ x) (hx1 : x < 256) (hg : GoodTx ad reg [x] 0) (z : Dv) (hz : D.x.doesD reg [x] 0 = z) (b : Nat) (hbb : b = w.heap.size) : Calls Try.prog 12 #[.pointer (some ⟨r, 0, none⟩), .agg #[.int .i64 ad, .int .i64 reg, .slice (some ⟨b, 0, none⟩) 1 1, .int .i64 0]] (w.alloc (.cells #[.int .u8 x] 5)) fun e w' => ∃ A c, e = .returned (.tuple #[.agg #[.int .i64 1, .slice A 0 c], .int .i64 0]) ∧ Aside0 (BusS w' lo hi r [{ D with x := z }] [] (cnt + 1)) ∧ Aside0 (Fr (Rg lo hi) w w') := by
  subst hz hbb
  have hb : Below w.heap.size w (w.alloc (.cells #[.int .u8 x] 5)) := below_alloc (Below.refl _ _) _
  have hk : (w.alloc (.cells #[.int .u8 x] 5)).heap[w.heap.size]? = some (.cells #[.int .u8 x] 5 (0, 0)) := blk_new w _
  refine (do1_ _ lo hi r D cnt (h.below hb) hc0 hc1 ad reg had (some ⟨w.heap.size, 0, none⟩) 1 [x] 0 hg (fun i hi => ?_) (Nat.le_refl _) (fun W hW => bytes_C (bs := [x]) (hW.blk hk (fun e => by have := e.2; have := h.top; omega)) (fun j hj => ?_) (by simp))).mono fun e w' ⟨v, he, hbr, hs, hf⟩ => ?_
  · have : i = 0 := by simp at hi; exact hi
    subst this
    exact ⟨hx0, hx1⟩
  · have : j = 0 := by simp at hj; exact hj
    subst this
    rfl
  · rw [doesB_wr _ _ _ _ (by simp)] at hbr
    obtain ⟨A, c, rfl⟩ := hbr.slice
    exact ⟨A, c, he, ⟨hs⟩, ⟨(Fr.of_below hb).trans hf⟩⟩
theorem doW2_ (w : World) (lo hi r : Nat) (D : Bd) (cnt : Int) (h : BusS w lo hi r [D] [] cnt) (hc0 : 0 ≤ cnt) (hc1 : cnt < 4611686018427387904) (ad reg : Int) (had : D.x.addr = ad) (x y : Int) (hx0 : 0 ≤ x) (hx1 : x < 256) (hy0 : 0 ≤ y) (hy1 : y < 256) (hg : GoodTx ad reg [x, y] 0) (z : Dv) (hz : D.x.doesD reg [x, y] 0 = z) (b : Nat) (hbb : b = w.heap.size) : Calls Try.prog 12 #[.pointer (some ⟨r, 0, none⟩), .agg #[.int .i64 ad, .int .i64 reg, .slice (some ⟨b, 0, none⟩) 2 2, .int .i64 0]] (w.alloc (.cells #[.int .u8 x, .int .u8 y] 5)) fun e w' => ∃ A c, e = .returned (.tuple #[.agg #[.int .i64 1, .slice A 0 c], .int .i64 0]) ∧ Aside0 (BusS w' lo hi r [{ D with x := z }] [] (cnt + 1)) ∧ Aside0 (Fr (Rg lo hi) w w') := by
  subst hz hbb
  have hb : Below w.heap.size w (w.alloc (.cells #[.int .u8 x, .int .u8 y] 5)) := below_alloc (Below.refl _ _) _
  have hk : (w.alloc (.cells #[.int .u8 x, .int .u8 y] 5)).heap[w.heap.size]? = some (.cells #[.int .u8 x, .int .u8 y] 5 (0, 0)) := blk_new w _
  refine (do1_ _ lo hi r D cnt (h.below hb) hc0 hc1 ad reg had (some ⟨w.heap.size, 0, none⟩) 2 [x, y] 0 hg (fun i hi => ?_) (Nat.le_refl _) (fun W hW => bytes_C (bs := [x, y]) (hW.blk hk (fun e => by have := e.2; have := h.top; omega)) (fun j hj => ?_) (by simp))).mono fun e w' ⟨v, he, hbr, hs, hf⟩ => ?_
  · simp only [List.length_cons, List.length_nil] at hi
    match i, hi with
    | 0, _ => exact ⟨hx0, hx1⟩
    | 1, _ => exact ⟨hy0, hy1⟩
  · simp only [List.length_cons, List.length_nil] at hj
    match j, hj with
    | 0, _ => rfl
    | 1, _ => rfl
  · rw [doesB_wr _ _ _ _ (by simp)] at hbr
    obtain ⟨A, c, rfl⟩ := hbr.slice
    exact ⟨A, c, he, ⟨hs⟩, ⟨(Fr.of_below hb).trans hf⟩⟩
theorem num_ (w : World) (a : Int) : Calls Try.prog 10 #[.int .i64 a] w fun e w' => e = .returned (.int .i64 a) ∧ Drawn0 w w' := gimballaw8_num.calls a a w rfl
theorem eqB_ (w : World) (bs : List Int) (L M : Nat) (hL : bs.length = L) (hM : bs.length = M) (A B : Option Addr) (c d : Nat) (hA : Kd.C (Kd.int .u8) w A bs.length bs) (hc : bs.length ≤ c) (hB : Kd.C (Kd.int .u8) w B bs.length bs) (hd : bs.length ≤ d) (hl : bs.length < 9223372036854775807) : Calls Try.prog 13 #[.slice A L c, .slice B M d] w fun e w' => e = .returned (.bool true) ∧ Drawn0 w w' := by
  subst hL hM
  obtain ⟨k, hk⟩ := (eqBytes_same bs bs hl rfl).rounds
  exact gimbalref0_EqBytes.calls k A c bs B d bs true w hA hc hB hd hk
end Go.Proofs.Ytpolofolibabiaa.Bs
