/-
  Layer 8: wakes.
  No conditions.
-/
import Derived.Test.YtpolofolibabiaaBusV
namespace Go.Proofs.Ytpolofolibabiaa.Bs
open Go Go.RowKit Go.Lib Go.Proofs.YtpolofolibabiaaW.PrintWords Go.Proofs.YtpolofolibabiaaW.PrintLast Go.Proofs.YtpolofolibabiaaW.PrintMore
set_option linter.unusedVariables false
set_option linter.unusedSimpArgs false
theorem one_of {ds : List Bd} {X : Dv} (h : ds.map (·.x) = [X]) : ∃ D, ds = [D] ∧ D.x = X := by
  match ds, h with
  | [D], h => exact ⟨D, rfl, by simpa using h⟩
/-- New of one model and no faults. -/
theorem newOne_ (w : World) (A : Option Addr) (c : Nat) (m : SM) (hm : mOk m) (hA : Kd.C k35 w A 1 [m]) (hc : 1 ≤ c) : Calls Try.prog 9 #[.slice A 1 c, .slice none 0 0] w fun e w' => ∃ r hi D, e = .returned (.tuple #[.pointer (some ⟨r, 0, none⟩), .int .i64 0]) ∧ Aside0 (D.x = mkDv m ∧ w.heap.size ≤ w'.heap.size) ∧ Aside0 (BusS w' w.heap.size hi r [D] [] 0) ∧ Aside0 (Below w.heap.size w w') := by
  have hg : GoodM [m] [] := by
    have h0 : ∀ i : Nat, i < [m].length → rd_T35 [m] (i : Int) = m := fun i hi => by
      have : i = 0 := by simp at hi; exact hi
      subst this
      rfl
    refine ⟨by simp, by simp, fun i hi => ?_, fun i hi => ?_, fun i j hj hi => ?_, fun i hi => absurd hi (Nat.not_lt_zero i)⟩
    · rw [h0 i hi]; exact goodModel_f m hm
    · rw [h0 i hi]; exact hm.2.2.2.2.1
    · have : i = 0 := by simp at hi; exact hi
      omega
  refine (new_ w A c [m] none 0 [] hA hc ⟨rfl, by decide, fun h => absurd h (Nat.lt_irrefl 0)⟩ (Nat.le_refl 0) hg).mono fun e w' ⟨r, hi, ds, he, hs, hx, hb⟩ => ?_
  obtain ⟨D, rfl, hD⟩ := one_of hx
  exact ⟨r, hi, D, he, ⟨hD, hb.size⟩, ⟨hs⟩, ⟨hb⟩⟩
theorem model_C {w : World} {b : Nat} (m : SM) (hl : m.f2 = []) (h : w.heap[b]? = some (.cells #[.int .i64 m.f0, .int .i64 m.f1, .slice none 0 0] 35 (0, 0))) : Kd.C k35 w (some ⟨b, 0, none⟩) 1 [m] := by
  refine ⟨rfl, by decide, fun _ => ⟨_, rfl, fun j p hj => ?_⟩⟩
  have hj0 : j = 0 := by have := (List.getElem?_eq_some_iff.1 hj).1; simp at this; exact this
  subst hj0
  simp only [List.getElem?_cons_zero, Option.some.injEq] at hj
  subst hj
  have hk := k35_mk w m (A2 := none) (c2 := 0) (by rw [hl]; exact Nat.le_refl _) (by rw [hl]; exact ⟨rfl, by decide, fun h => absurd h (Nat.lt_irrefl 0)⟩)
  rw [hl] at hk
  refine ⟨_, rfl, hk, fun i u hu => ?_⟩
  have ha : (⟨b, 0, none⟩ : Addr).add (0 * (k35).sz + i) = ⟨b, i, none⟩ := by rw [add_at]; simp
  rw [ha]
  refine (blk_cell h i).trans ?_
  simpa using hu
theorem doesB_rd (x : Dv) (n : Nat) : x.doesB 0 [] n = x.reads 0 n := by unfold Dv.doesB; rw [if_neg (by simp), if_neg (by decide)]
theorem doesD_rd (x : Dv) (reg : Int) (n : Nat) (h : reg ≠ 4) : x.doesD reg [] n = x := by unfold Dv.doesD; rw [if_neg (by simp), if_neg h]
theorem goodRd {ad reg : Int} {n : Nat} (h0 : 0 ≤ ad) (h1 : ad ≤ 127) (h2 : 0 ≤ reg) (h3 : reg ≤ 5) (h4 : 0 < n) (h5 : n ≤ 128) : GoodTx ad reg [] n := ⟨h0, h1, h2, h3, by simp, fun h => absurd h (Nat.lt_irrefl 0), fun _ => h4, h5⟩
theorem ans_C {w W : World} {b : Nat} {A : Option Addr} {c : Nat} {bs : List Int} (h : ByteRow w b (.slice A bs.length c) bs) (hb : Below w.heap.size w W) (hl : bs.length ≤ 128) : bs.length ≤ c ∧ Kd.C (Kd.int .u8) W A bs.length bs := ((h.below hb).C (by omega)).2
theorem belowD {B : Nat} {w W : World} (h : Below B w W) (n : Nat) : Below B w (W.drewN n) := ⟨h.os, h.tape, h.output, h.size, h.block⟩
theorem lit_C (W : World) (cs : Array Value) (bs : List Int) (hcs : cs = (bs.map (Value.int .u8)).toArray) (hl : bs.length ≤ 9223372036854775807) : Kd.C (Kd.int .u8) (W.alloc (.cells cs 5)) (some ⟨W.heap.size, 0, none⟩) bs.length bs := by
  subst hcs
  exact bytes_C (blk_new W _) (fun j hj => by rw [List.getElem?_toArray, List.getElem?_map, List.getElem?_eq_getElem hj, getElem!_pos bs j hj]; rfl) hl
theorem drew_size (w : World) (n : Nat) : w.heap.size = (w.drewN n).heap.size := rfl
theorem lit1_C (W : World) (b : Nat) (hb : b = W.heap.size) (x : Int) : Kd.C (Kd.int .u8) (W.alloc (.cells #[.int .u8 x] 5)) (some ⟨b, 0, none⟩) [x].length [x] := by
  subst hb
  exact lit_C W _ [x] rfl (by simp)
theorem lit4_C (W : World) (b : Nat) (hb : b = W.heap.size) (x y z u : Int) : Kd.C (Kd.int .u8) (W.alloc (.cells #[.int .u8 x, .int .u8 y, .int .u8 z, .int .u8 u] 5)) (some ⟨b, 0, none⟩) [x, y, z, u].length [x, y, z, u] := by
  subst hb
  exact lit_C W _ [x, y, z, u] rfl (by simp)
theorem m577 : mOk ⟨5, 77, []⟩ := by
  unfold mOk
  exact ⟨by decide, by decide, by decide, by decide, by decide, fun j hj => absurd hj (Nat.not_lt_zero j)⟩
set_option maxHeartbeats 8000000 in
set_option maxRecDepth 100000 in
theorem wakes_ (w : World) : Calls Try.prog 15 #[] w fun e w' => e = .returned (.bool true) ∧ Below w.heap.size w w' := by
  obtain ⟨w0, hw0⟩ : ∃ w0, w0 = w.alloc (.cells #[.int .i64 5, .int .i64 77, .slice none 0 0] 35) := ⟨_, rfl⟩
  have hb0 : Below w.heap.size w w0 := hw0 ▸ below_alloc (Below.refl _ _) _
  have HB0 := Aside0.mk hb0
  have HN := Aside0.mk (show Calls Try.prog 9 #[.slice (some ⟨w.heap.size, 0, none⟩) 1 1, .slice none 0 0] (w.alloc (.cells #[.int .i64 5, .int .i64 77, .slice none 0 0] 35)) _ from newOne_ _ _ _ ⟨5, 77, []⟩ m577 (model_C ⟨5, 77, []⟩ rfl (blk_new w _)) (Nat.le_refl 1))
  have HW0 := Aside0.mk hw0
  clear hb0 hw0
  go_enter Try.func15, Try.ntmps15
  go_upto_region 4 with (first | (go_at_call 9; with_reducible refine HN.out.mono ?_; rintro e w1 ⟨r, hi, D, rfl, HD, HS, HB⟩) | (go_at_call 10; with_reducible refine (num_ _ _).mono ?_; rintro e w' ⟨rfl, nd, rfl⟩))
  have hD := HD.out.1
  have hx : D.x.addr = 5 := by rw [hD]; rfl
  have hB : D.x.doesB 0 [] 1 = [77] := by rw [hD]; rfl
  have HDO := Aside0.mk (fun (W : World) (lo : Nat) (h : BusS W lo hi r [D] [] 0) => doRd_ W lo hi r D 0 h (by decide) (by decide) 5 0 hx 1 1 rfl (goodRd (by decide) (by decide) (by decide) (by decide) (by decide) (by decide)) [77] hB 1 rfl D.x (doesD_rd _ _ _ (by decide)))
  clear hB hx hD
  go_upto_region 5 with (go_at_call 12; with_reducible refine (HDO.out _ _ (HS.out.drewN nd)).mono ?_; rintro e w2 ⟨A, c, rfl, HA, HS2, HF2⟩)
  obtain ⟨w3, hw3⟩ : ∃ w3, w3 = w2.alloc (.cells #[.int .i64 1, .slice A 1 c] 43) := ⟨_, rfl⟩
  rw [← hw3]
  have hb3 : Below w2.heap.size w2 w3 := hw3 ▸ below_alloc (Below.refl _ _) _
  have hx3 : w3.heap[w2.heap.size]? = some (.cells #[.int .i64 1, .slice A 1 c] 43 (0, 0)) := by rw [hw3]; exact blk_new w2 _
  have c0 : w3.cell? ⟨w2.heap.size, 0, none⟩ = some (.int .i64 1) := (blk_cell hx3 0).trans rfl
  have c1 : w3.cell? ⟨w2.heap.size, 1, none⟩ = some (.slice A 1 c) := (blk_cell hx3 1).trans rfl
  have hC := fun W (h : Below w2.heap.size w2 W) => ans_C (W := W) (A := A) (c := c) (bs := [77]) HA.out h (by decide)
  have HC := Aside0.mk hC
  have HB3 := Aside0.mk hb3
  clear hw3 hx3 hC hb3
  go_wp2_with (first | (go_at_call 10; with_reducible refine (num_ _ _).mono ?_; rintro e w' ⟨rfl, ne, rfl⟩) | (go_at_call 13; with_reducible refine (eqB_ _ [77] 1 1 rfl rfl A _ c 1 ?qA ?qc ?qB (Nat.le_refl _) (by decide)).mono ?_; (case qA => exact (HC.out _ (below_alloc (belowD HB3.out _) _)).2); (case qc => exact (HC.out _ HB3.out).1); (case qB => exact lit1_C (w3.drewN ne) _ (drew_size _ _) 77); rintro e w' ⟨rfl, nf, rfl⟩))
  go_ret
  refine ⟨rfl, ?_⟩
  have h1 : Below w.heap.size w w2 := by
    have hb := HB.out
    have h0 : Below w.heap.size w (w.alloc (.cells #[.int .i64 5, .int .i64 77, .slice none 0 0] 35)) := below_alloc (Below.refl _ _) _
    have hw1 : Below w.heap.size w w1 := ⟨hb.os.trans h0.os, hb.tape.trans h0.tape, hb.output.trans h0.output, Nat.le_trans h0.size hb.size, fun k hk => (hb.block k (Nat.lt_of_lt_of_le hk h0.size)).trans (h0.block k hk)⟩
    exact HF2.out.belowB (belowD hw1 nd) (fun k hk => Nat.le_trans h0.size hk.1) hw1.size
  have h3 : Below w.heap.size w w3 := ⟨HB3.out.os.trans h1.os, HB3.out.tape.trans h1.tape, HB3.out.output.trans h1.output, Nat.le_trans h1.size HB3.out.size, fun k hk => (HB3.out.block k (Nat.lt_of_lt_of_le hk h1.size)).trans (h1.block k hk)⟩
  exact belowD (below_alloc (belowD h3 ne) _) nf
end Go.Proofs.Ytpolofolibabiaa.Bs
