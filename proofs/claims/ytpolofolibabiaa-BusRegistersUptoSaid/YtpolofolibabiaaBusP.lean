/-
  Printed walks of functions that the hand-made ones call.
  No conditions.
-/
import Derived.ArgAppend
import Derived.Below
import Derived.BigQuiet
import Derived.Deep.AppendLies
import Derived.Deep.CutBlock
import Derived.Deep.DeepCutAuto
import Derived.Deep.Draws
import Derived.Deep.LoopGhost
import Derived.Deep.OwnRows
import Derived.Deep.QuietTactic
import Derived.Deep.RegionHeld3
import Derived.KernelRfl
import Derived.Laws.BitsLemmas
import Derived.Laws.BytesArg
import Derived.Laws.IdiomCopy
import Derived.Laws.MakeOwn
import Derived.Laws.OwnMore
import Derived.Laws.Rows
import Derived.Laws.Slices
import Derived.Lib.AppendStr
import Derived.Lib.ConvBytes
import Derived.Maps.AppendAt
import Derived.OrdersHeld
import Derived.OwnWalk
import Derived.RowKit
import Derived.RowKit3
import Derived.Tactics
import Derived.Test.YtpolofolibabiaaProg
import Derived.Test.YtpolofolibabiaaSqz
import Derived.Test.YtpolofolibabiaaWApart
import Derived.Test.YtpolofolibabiaaWArr
import Derived.Test.YtpolofolibabiaaWAt
import Derived.Test.YtpolofolibabiaaWEqStruct
import Derived.Test.YtpolofolibabiaaWFoot
import Derived.Test.YtpolofolibabiaaWFootNe
import Derived.Test.YtpolofolibabiaaWFour
import Derived.Test.YtpolofolibabiaaWGuard
import Derived.Test.YtpolofolibabiaaWInv
import Derived.Test.YtpolofolibabiaaWInvWords
import Derived.Test.YtpolofolibabiaaWKept
import Derived.Test.YtpolofolibabiaaWLast
import Derived.Test.YtpolofolibabiaaWMore
import Derived.Test.YtpolofolibabiaaWN
import Derived.Test.YtpolofolibabiaaWNEv
import Derived.Test.YtpolofolibabiaaWQPut
import Derived.Test.YtpolofolibabiaaWRepsOne
import Derived.Test.YtpolofolibabiaaWShare
import Derived.Test.YtpolofolibabiaaWTab
import Derived.Test.YtpolofolibabiaaWWords
import Derived.Test.YtpolofolibabiaaWZeros
import Derived.WalkKit
import Derived.WideLaws
import Derived.Test.YtpolofolibabiaaCut
namespace Go.Proofs.Ytpolofolibabiaa.Bs
open Go.RowKit Go.Proofs.YtpolofolibabiaaW.PrintWords Go.Proofs.YtpolofolibabiaaW.PrintLast Go.Proofs.YtpolofolibabiaaW.PrintMore
attribute [local go_sem] max2_int min2_int max_two min_two max_three min_three max_four min_four
set_option linter.unusedVariables false
set_option linter.unusedSimpArgs false
def errW : Option Int → Value
  | none => .nilIface
  | some c => .iface 0 (.int .i64 c)
theorem errW_none : errW none = .nilIface := rfl
theorem errW_some (c : Int) : errW (some c) = .iface 0 (.int .i64 c) := rfl

theorem info3 : (Try.prog.info? 3).map (fun i => (i.zero, i.size, i.bytes)) = some (some (.int .i64 0), 1, 8) := by kernel_rfl
theorem info5 : (Try.prog.info? 5).map (fun i => (i.zero, i.size, i.bytes)) = some (some (.int .u8 0), 1, 1) := by kernel_rfl
-- the values' own types
/-! #### struct type 60 -/
structure S60 where
  f0 : Int
  f1 : Int
  f2 : Int
  f3 : Int
def z60 : S60 := ⟨(0 : Int), (0 : Int), (0 : Int), (0 : Int)⟩
def k60 : Kd S60 := Kd.iso (Kd.pair (Kd.int .i64) (Kd.pair (Kd.int .i64) (Kd.pair (Kd.int .i64) (Kd.int .i64)))) (fun x : S60 => (x.f0, x.f1, x.f2, x.f3))
theorem k60_open {w : World} {x : S60} {cs : List Value} (h : k60.K w x cs) : cs = [.int .i64 x.f0, .int .i64 x.f1, .int .i64 x.f2, .int .i64 x.f3] := by
  obtain ⟨_, _, rfl, rfl, ⟨_, _, rfl, rfl, ⟨_, _, rfl, rfl, rfl⟩⟩⟩ := h
  exact rfl
theorem k60_openM {w : World} {base : Nat} {ok : Nat → Prop} {x : S60} {cs : List Value} (h : k60.M w base ok x cs) : cs = [.int .i64 x.f0, .int .i64 x.f1, .int .i64 x.f2, .int .i64 x.f3] := by
  obtain ⟨_, _, rfl, rfl, ⟨_, _, rfl, rfl, ⟨_, _, rfl, rfl, rfl⟩⟩⟩ := h
  exact rfl
theorem k60_mk (w : World) (x : S60)  : k60.K w x [.int .i64 x.f0, .int .i64 x.f1, .int .i64 x.f2, .int .i64 x.f3] := ⟨[.int .i64 x.f0], [.int .i64 x.f1, .int .i64 x.f2, .int .i64 x.f3], rfl, rfl, ⟨[.int .i64 x.f1], [.int .i64 x.f2, .int .i64 x.f3], rfl, rfl, ⟨[.int .i64 x.f2], [.int .i64 x.f3], rfl, rfl, rfl⟩⟩⟩
theorem k60_mkM (w : World) (base : Nat) (ok : Nat → Prop) (x : S60)  : k60.M w base ok x [.int .i64 x.f0, .int .i64 x.f1, .int .i64 x.f2, .int .i64 x.f3] := ⟨[.int .i64 x.f0], [.int .i64 x.f1, .int .i64 x.f2, .int .i64 x.f3], rfl, rfl, ⟨[.int .i64 x.f1], [.int .i64 x.f2, .int .i64 x.f3], rfl, rfl, ⟨[.int .i64 x.f2], [.int .i64 x.f3], rfl, rfl, rfl⟩⟩⟩
def rd_T60 (xs : List S60) (i : Int) : S60 := xs.getD i.toNat z60
theorem at_T60 {w : World} {A : Option Addr} {n : Nat} {xs : List S60} (h : Kd.C k60 w A n xs) (i : Int) (h0 : 0 ≤ i) (h1 : i < n) : ∃ ad , A = some ad ∧ w.cell? (ad.add (i.toNat * 4)) = some (.int .i64 (rd_T60 xs i).f0) ∧ w.cell? ⟨(ad.add (i.toNat * 4)).block, (ad.add (i.toNat * 4)).off + 1, none⟩ = some (.int .i64 (rd_T60 xs i).f1) ∧ w.cell? ⟨(ad.add (i.toNat * 4)).block, (ad.add (i.toNat * 4)).off + 2, none⟩ = some (.int .i64 (rd_T60 xs i).f2) ∧ w.cell? ⟨(ad.add (i.toNat * 4)).block, (ad.add (i.toNat * 4)).off + 3, none⟩ = some (.int .i64 (rd_T60 xs i).f3) := by
  obtain ⟨ad, c, e, _, hK, hc0⟩ := Kd.C_get h z60 i h0 h1
  have hc : ∀ j u, c[j]? = some u → w.cell? (ad.add (i.toNat * 4 + j)) = some u := hc0
  obtain rfl := k60_open hK
  exact ⟨ad, e, hc 0 _ rfl, by rw [← add_field _ _ 1 (by omega)]; exact hc 1 _ rfl, by rw [← add_field _ _ 2 (by omega)]; exact hc 2 _ rfl, by rw [← add_field _ _ 3 (by omega)]; exact hc 3 _ rfl⟩

def rd_L2 (xs : List (List S60)) (i : Int) : (List S60) := xs.getD i.toNat ([] : List S60)
theorem at_L2 {w : World} {A : Option Addr} {n : Nat} {xs : List (List S60)} (h : Kd.C (Kd.slice 60 k60) w A n xs) (i : Int) (h0 : 0 ≤ i) (h1 : i < n) : ∃ ad A0 c0, A = some ad ∧ w.cell? (ad.add i.toNat) = some (.slice A0 (rd_L2 xs i).length c0) ∧ (rd_L2 xs i).length ≤ c0 ∧ k60.C w A0 (rd_L2 xs i).length (rd_L2 xs i) := by
  obtain ⟨ad, c, e, _, hK, hc0⟩ := Kd.C_get h ([] : List S60) i h0 h1
  have hc : ∀ j u, c[j]? = some u → w.cell? (ad.add (i.toNat * 1 + j)) = some u := hc0
  obtain ⟨A0, c0, rfl, l0, g0⟩ := hK
  exact ⟨ad, A0, c0, e, by have hq := hc 0 _ rfl; rwa [Nat.mul_one, Nat.add_zero] at hq, l0, g0⟩

/-! #### struct type 35 -/
structure S35 where
  f0 : Int
  f1 : Int
  f2 : (List S60)
def z35 : S35 := ⟨(0 : Int), (0 : Int), ([] : List S60)⟩
def k35 : Kd S35 := Kd.iso (Kd.pair (Kd.int .i64) (Kd.pair (Kd.int .i64) (Kd.slice 60 k60))) (fun x : S35 => (x.f0, x.f1, x.f2))
theorem k35_open {w : World} {x : S35} {cs : List Value} (h : k35.K w x cs) : ∃ A2 c2, cs = [.int .i64 x.f0, .int .i64 x.f1, .slice A2 x.f2.length c2] ∧ x.f2.length ≤ c2 ∧ k60.C w A2 x.f2.length x.f2 := by
  obtain ⟨_, _, rfl, rfl, ⟨_, _, rfl, rfl, ⟨A2, c2, rfl, l2, g2⟩⟩⟩ := h
  exact ⟨A2, c2, rfl, l2, g2⟩
theorem k35_openM {w : World} {base : Nat} {ok : Nat → Prop} {x : S35} {cs : List Value} (h : k35.M w base ok x cs) : ∃ v2, cs = [.int .i64 x.f0, .int .i64 x.f1, v2] ∧ k60.R 60 w base ok v2 x.f2 := by
  obtain ⟨_, _, rfl, rfl, ⟨_, _, rfl, rfl, ⟨v2, rfl, g2⟩⟩⟩ := h
  exact ⟨v2, rfl, g2⟩
theorem k35_mk (w : World) (x : S35) {A2 : Option Addr} {c2 : Nat} (l2 : x.f2.length ≤ c2) (g2 : k60.C w A2 x.f2.length x.f2) : k35.K w x [.int .i64 x.f0, .int .i64 x.f1, .slice A2 x.f2.length c2] := ⟨[.int .i64 x.f0], [.int .i64 x.f1, .slice A2 x.f2.length c2], rfl, rfl, ⟨[.int .i64 x.f1], [.slice A2 x.f2.length c2], rfl, rfl, ⟨A2, c2, rfl, l2, g2⟩⟩⟩
theorem k35_mkM (w : World) (base : Nat) (ok : Nat → Prop) (x : S35) {v2 : Value} (g2 : k60.R 60 w base ok v2 x.f2) : k35.M w base ok x [.int .i64 x.f0, .int .i64 x.f1, v2] := ⟨[.int .i64 x.f0], [.int .i64 x.f1, v2], rfl, rfl, ⟨[.int .i64 x.f1], [v2], rfl, rfl, ⟨v2, rfl, g2⟩⟩⟩
def rd_T35 (xs : List S35) (i : Int) : S35 := xs.getD i.toNat z35
theorem at_T35 {w : World} {A : Option Addr} {n : Nat} {xs : List S35} (h : Kd.C k35 w A n xs) (i : Int) (h0 : 0 ≤ i) (h1 : i < n) : ∃ ad A2 c2, A = some ad ∧ w.cell? (ad.add (i.toNat * 3)) = some (.int .i64 (rd_T35 xs i).f0) ∧ w.cell? ⟨(ad.add (i.toNat * 3)).block, (ad.add (i.toNat * 3)).off + 1, none⟩ = some (.int .i64 (rd_T35 xs i).f1) ∧ w.cell? ⟨(ad.add (i.toNat * 3)).block, (ad.add (i.toNat * 3)).off + 2, none⟩ = some (.slice A2 (rd_T35 xs i).f2.length c2) ∧ (rd_T35 xs i).f2.length ≤ c2 ∧ k60.C w A2 (rd_T35 xs i).f2.length (rd_T35 xs i).f2 := by
  obtain ⟨ad, c, e, _, hK, hc0⟩ := Kd.C_get h z35 i h0 h1
  have hc : ∀ j u, c[j]? = some u → w.cell? (ad.add (i.toNat * 3 + j)) = some u := hc0
  obtain ⟨A2, c2, rfl, l2, g2⟩ := k35_open hK
  exact ⟨ad, A2, c2, e, hc 0 _ rfl, by rw [← add_field _ _ 1 (by omega)]; exact hc 1 _ rfl, by rw [← add_field _ _ 2 (by omega)]; exact hc 2 _ rfl, l2, g2⟩

/-! #### struct type 54 -/
structure S54 where
  f0 : Int
  f1 : Int
  f2 : Int
  f3 : Int
def z54 : S54 := ⟨(0 : Int), (0 : Int), (0 : Int), (0 : Int)⟩
def k54 : Kd S54 := Kd.iso (Kd.pair (Kd.int .i64) (Kd.pair (Kd.int .i64) (Kd.pair (Kd.int .i64) (Kd.int .u8)))) (fun x : S54 => (x.f0, x.f1, x.f2, x.f3))
theorem k54_open {w : World} {x : S54} {cs : List Value} (h : k54.K w x cs) : cs = [.int .i64 x.f0, .int .i64 x.f1, .int .i64 x.f2, .int .u8 x.f3] := by
  obtain ⟨_, _, rfl, rfl, ⟨_, _, rfl, rfl, ⟨_, _, rfl, rfl, rfl⟩⟩⟩ := h
  exact rfl
theorem k54_openM {w : World} {base : Nat} {ok : Nat → Prop} {x : S54} {cs : List Value} (h : k54.M w base ok x cs) : cs = [.int .i64 x.f0, .int .i64 x.f1, .int .i64 x.f2, .int .u8 x.f3] := by
  obtain ⟨_, _, rfl, rfl, ⟨_, _, rfl, rfl, ⟨_, _, rfl, rfl, rfl⟩⟩⟩ := h
  exact rfl
theorem k54_mk (w : World) (x : S54)  : k54.K w x [.int .i64 x.f0, .int .i64 x.f1, .int .i64 x.f2, .int .u8 x.f3] := ⟨[.int .i64 x.f0], [.int .i64 x.f1, .int .i64 x.f2, .int .u8 x.f3], rfl, rfl, ⟨[.int .i64 x.f1], [.int .i64 x.f2, .int .u8 x.f3], rfl, rfl, ⟨[.int .i64 x.f2], [.int .u8 x.f3], rfl, rfl, rfl⟩⟩⟩
theorem k54_mkM (w : World) (base : Nat) (ok : Nat → Prop) (x : S54)  : k54.M w base ok x [.int .i64 x.f0, .int .i64 x.f1, .int .i64 x.f2, .int .u8 x.f3] := ⟨[.int .i64 x.f0], [.int .i64 x.f1, .int .i64 x.f2, .int .u8 x.f3], rfl, rfl, ⟨[.int .i64 x.f1], [.int .i64 x.f2, .int .u8 x.f3], rfl, rfl, ⟨[.int .i64 x.f2], [.int .u8 x.f3], rfl, rfl, rfl⟩⟩⟩
def rd_T54 (xs : List S54) (i : Int) : S54 := xs.getD i.toNat z54
theorem at_T54 {w : World} {A : Option Addr} {n : Nat} {xs : List S54} (h : Kd.C k54 w A n xs) (i : Int) (h0 : 0 ≤ i) (h1 : i < n) : ∃ ad , A = some ad ∧ w.cell? (ad.add (i.toNat * 4)) = some (.int .i64 (rd_T54 xs i).f0) ∧ w.cell? ⟨(ad.add (i.toNat * 4)).block, (ad.add (i.toNat * 4)).off + 1, none⟩ = some (.int .i64 (rd_T54 xs i).f1) ∧ w.cell? ⟨(ad.add (i.toNat * 4)).block, (ad.add (i.toNat * 4)).off + 2, none⟩ = some (.int .i64 (rd_T54 xs i).f2) ∧ w.cell? ⟨(ad.add (i.toNat * 4)).block, (ad.add (i.toNat * 4)).off + 3, none⟩ = some (.int .u8 (rd_T54 xs i).f3) := by
  obtain ⟨ad, c, e, _, hK, hc0⟩ := Kd.C_get h z54 i h0 h1
  have hc : ∀ j u, c[j]? = some u → w.cell? (ad.add (i.toNat * 4 + j)) = some u := hc0
  obtain rfl := k54_open hK
  exact ⟨ad, e, hc 0 _ rfl, by rw [← add_field _ _ 1 (by omega)]; exact hc 1 _ rfl, by rw [← add_field _ _ 2 (by omega)]; exact hc 2 _ rfl, by rw [← add_field _ _ 3 (by omega)]; exact hc 3 _ rfl⟩
/-! ### bus_GoodRaw: function 46 -/
def bus_GoodRaw.l0 : Nat → List Int → Int → Int → Int → Int → Int → Int → Option (Bool)
 | 0, _, _, _, _, _, _, _ => none
 | k + 1, x11, x12, x13, x123000, x123001, x123002, x123003 => if x13 < x12 then (if 0 ≤ x13 then (if x13 < (x11.length : Int) then (if (rd x11 x13) < (-32768) then (some false) else (if (rd x11 x13) ≥ 32768 then (some false) else (bus_GoodRaw.l0 k x11 x12 (wrap64 (x13 + 1)) x123000 x123001 x123002 x123003))) else (none)) else (none)) else (if x123003 ≥ (-128) then (some (decide (x123003 ≤ 127))) else (some false))
def bus_GoodRaw.f (k : Nat) (a0_0 : Int) (a0_1 : Int) (a0_2 : Int) (a0_3 : Int) : Option (Bool) := (some (([a0_0, a0_1, a0_2] : List Int) : List Int)).bind fun y123 => (bus_GoodRaw.l0 k y123 (y123.length : Int) 0 a0_0 a0_1 a0_2 a0_3)
theorem bus_GoodRaw.mono_l : ∀ k, (∀ y0 y1 y2 y3 y4 y5 y6, LeO (bus_GoodRaw.l0 k y0 y1 y2 y3 y4 y5 y6) (bus_GoodRaw.l0 (k + 1) y0 y1 y2 y3 y4 y5 y6))
 | 0 => fun _ _ _ _ _ _ _ r h => by simp [bus_GoodRaw.l0] at h
 | k + 1 => by
  have ih0 := bus_GoodRaw.mono_l k
  ·intro y0 y1 y2 y3 y4 y5 y6
   unfold bus_GoodRaw.l0
   repeat' first
   | (with_reducible exact ih0 _ _ _ _ _ _ _)
   | (with_reducible exact LeO.refl _)
   | (with_reducible exact LeO.none _)
   | (with_reducible refine LeO.ite ?_ ?_)
   | (with_reducible refine LeO.bind ?_ (fun _ => ?_))
   | exact ih0 _ _ _ _ _ _ _
   | exact LeO.none _
   | refine LeO.ite ?_ ?_
   | refine LeO.bind ?_ (fun _ => ?_)
theorem bus_GoodRaw.mono : ∀ a0 a1 a2 a3 k, LeO (bus_GoodRaw.f k a0 a1 a2 a3) (bus_GoodRaw.f (k + 1) a0 a1 a2 a3) := by
 intro a0 a1 a2 a3 k
 have ih0 := bus_GoodRaw.mono_l k
 unfold bus_GoodRaw.f
 repeat' first
   | (with_reducible exact ih0 _ _ _ _ _ _ _)
   | (with_reducible exact LeO.refl _)
   | (with_reducible exact LeO.none _)
   | (with_reducible refine LeO.ite ?_ ?_)
   | (with_reducible refine LeO.bind ?_ (fun _ => ?_))
   | exact ih0 _ _ _ _ _ _ _
   | exact LeO.none _
   | refine LeO.ite ?_ ?_
   | refine LeO.bind ?_ (fun _ => ?_)
set_option maxHeartbeats 8000000 in
set_option maxRecDepth 100000 in
theorem bus_GoodRaw.calls (k : Nat) (a0_0 : Int) (a0_1 : Int) (a0_2 : Int) (a0_3 : Int) (r : Bool) (w : World) (h : bus_GoodRaw.f k a0_0 a0_1 a0_2 a0_3 = some r) :
  Calls Try.prog 46 #[.agg #[.int .i64 a0_0, .int .i64 a0_1, .int .i64 a0_2, .int .i64 a0_3]] w fun e w' => e = .returned (.bool r) ∧ Below w.heap.size w w' := by
 have hu60 := Try.underlying60
 have HB := Aside0.mk (Below.refl w.heap.size w)
 have H : ((some (([a0_0, a0_1, a0_2] : List Int) : List Int)).bind fun y123 => (bus_GoodRaw.l0 k y123 (y123.length : Int) 0 a0_0 a0_1 a0_2 a0_3)) = some r := h
 clear h
 obtain ⟨y123, hy123⟩ : ∃ y_ : List Int, y_ = (([a0_0, a0_1, a0_2] : List Int)) := ⟨_, rfl⟩
 replace H : (bus_GoodRaw.l0 k y123 (y123.length : Int) 0 a0_0 a0_1 a0_2 a0_3) = some r := by first | (rw [hy123]; with_reducible exact H) | (have H2_ := (Option.bind_some _ _).symm.trans H; rw [hy123]; with_reducible exact H2_) | (have H2_ := (Option.bind_some _ _).symm.trans H; with_reducible exact H2_) | with_reducible exact H | (rw [hy123]; exact H) | exact H
 have Ny123 := Aside0.mk hy123
 clear hy123
 have H' := Aside0.mk H
 clear H
 go_enter Try.func46, Try.ntmps46
 go_wp2_with (first | ((with_reducible refine gate_dst (N := 1) rfl ?_); refine box_event ?hg (N := 1) ?hd (cs := #[.int .i64 a0_0, .int .i64 a0_1, .int .i64 a0_2, .int .i64 a0_3]) (t := 60) ?hr ?_; (case hd => rfl); (case hg => rfl); (case hr => first | (go_simp; done) | (go_simp; rfl)); intro gb122 hg w2 hbox hb; have BK122 := Aside0.mk hbox; have GW122 := Sq.ge hg HB; have GE122 := Sq.ge hg HB; replace HB := Sq.sw HB hb; clear hb hbox hg; obtain ⟨z3_0, z3_1, z3_2, z3_3⟩ := Sq.c4 BK122.out; obtain ⟨y3_0, y3_1, y3_2, y3_3⟩ := Sq.f4 BK122.out) | ((with_reducible refine gate_dst (N := 11) rfl ?_); refine Kd.R_lit (Kd.int .i64) _ 3 ?hg (N := 11) ?hd (xs := ([a0_0, a0_1, a0_2] : List Int)) (inner := [.int .i64 a0_0, .int .i64 a0_1, .int .i64 a0_2]) (ok := fun _ => True) (okp := fun _ => True) ?hr ?hp (fun _ hk => hk) trivial (Below.refl _ _) (Nat.le_refl _) (by simp) ?_; (case hd => rfl); (case hg => rfl); (case hr => first | (go_simp; done) | (go_simp; rfl)); (case hp => exact (Reps.one (show Kd.M (Kd.int .i64) _ _ _ a0_0 [.int .i64 a0_0] from rfl) (Reps.one (show Kd.M (Kd.int .i64) _ _ _ a0_1 [.int .i64 a0_1] from rfl) (Reps.one (show Kd.M (Kd.int .i64) _ _ _ a0_2 [.int .i64 a0_2] from rfl) (Reps.none _ _))))); intro v124 w4 ho5 hb hg_ hnew_; clear hg_ hnew_; (first | rw [← Ny123.out] at ho5 | (simp only [Int.reduceToNat] at ho5; rw [← Ny123.out] at ho5)); have HO125 := Aside0.mk (Kd.R_lower ho5 (below_size (Sq.w HB.out))); replace BK122 := Sq.sb BK122 hb; replace HB := Sq.sw HB hb; clear hb ho5; obtain ⟨Ao6, co6, eo6⟩ := Kd.R_slice HO125.out; subst eo6))
 refine Cu.wp_loop (Cu.rep 2 Cu.f (Cu.rep 1 Cu.t (Cu.rep 1 Cu.f (Cu.rep 1 Cu.t (Cu.rep 8 Cu.f (Cu.rep 11 Cu.t (Cu.rep 8 Cu.f []))))))) 13 (fun kq us_ w' => ∃ (x13_1 : Int), (Cu.nth us_ 2) = .int .i64 x13_1 ∧ Aside0 (bus_GoodRaw.l0 kq y123 (y123.length : Int) x13_1 a0_0 a0_1 a0_2 a0_3 = some r) ∧ Aside0 (kq ≤ k) ∧ Aside0 (Kd.R (Kd.int .i64) 3 w' w.heap.size (fun _ => True) (.slice Ao6 y123.length co6) y123) ∧ Aside0 (w'.heap[gb122]? = some (.cells #[.int .i64 a0_0, .int .i64 a0_1, .int .i64 a0_2, .int .i64 a0_3] 60 (0, 0))) ∧ Aside0 (Below w.heap.size w w')) k ?_ (by kernel_rfl) (by kernel_rfl) ?_
 · try dsimp only [Cu.pick, Cu.rep, Cu.nth]
   exact ⟨(0), Sq.e, H', ⟨Nat.le_refl _⟩, ⟨Sq.rR HO125.out⟩, ⟨Sq.b BK122.out⟩, ⟨Sq.w HB.out⟩⟩
 ·
  intro gk wr u2 u4 u13 u14 u15 u16 u17 u18 u19 u20 u21 u22 u23
  try dsimp only [Cu.over, Cu.rep, Cu.nth]
  intro hrel _ _ _ _
  clear H'; (try clear z3_0 z3_1 z3_2 z3_3); (try clear y3_0 y3_1 y3_2 y3_3)
  obtain ⟨x13_1, rfl, HA, HK1, HO_11, BK122, HB⟩ := hrel
  cases gk with
  | zero => exact absurd HA.out (by simp [bus_GoodRaw.l0])
  | succ k1 =>
   have H := HA.out
   clear HA
   simp only [bus_GoodRaw.l0] at H
   by_cases c7 : x13_1 < (y123.length : Int)
   ·rw [if_pos c7] at H
    have c7b0 : decide (x13_1 < (y123.length : Int)) = true := decide_eq_true c7
    clear c7
    by_cases c8 : 0 ≤ x13_1
    ·rw [if_pos c8] at H
     have c8b0 : decide (0 ≤ x13_1) = true := decide_eq_true c8
     clear c8
     by_cases c9 : x13_1 < (y123.length : Int)
     ·rw [if_pos c9] at H
      have c9b0 : decide (x13_1 < (y123.length : Int)) = true := decide_eq_true c9
      clear c9
      by_cases c10 : (rd y123 x13_1) < (-32768)
      ·rw [if_pos c10] at H
       have c10b0 : decide ((rd y123 x13_1) < (-32768)) = true := decide_eq_true c10
       clear c10
       obtain rfl := Option.some.inj H
       have p126 : 0 ≤ (x13_1 : Int) := of_decide_eq_true (by first | (with_reducible assumption) | assumption)
       have q126 : x13_1 < (y123.length : Int) := of_decide_eq_true (by first | (with_reducible assumption) | assumption)
       obtain ⟨ad126, e126, hx126_0⟩ := Kd.at_int (Kd.R_reads' HO_11.out).2.2 x13_1 p126 q126
       cases e126
       replace p126 := eq_true p126
       replace q126 := eq_true q126
       go_wp2
       go_ret
       exact ⟨by first | rfl | (simp [errW_none, errW_some] <;> rfl) | (simp [*, errW_none, errW_some] <;> rfl), Sq.w HB.out⟩
      ·rw [if_neg c10] at H
       have c10b0 : decide ((rd y123 x13_1) < (-32768)) = false := decide_eq_false c10
       clear c10
       by_cases c11 : (rd y123 x13_1) ≥ 32768
       ·rw [if_pos c11] at H
        have c11b0 : decide (32768 ≤ (rd y123 x13_1)) = true := decide_eq_true c11
        clear c11
        obtain rfl := Option.some.inj H
        have p126 : 0 ≤ (x13_1 : Int) := of_decide_eq_true (by first | (with_reducible assumption) | assumption)
        have q126 : x13_1 < (y123.length : Int) := of_decide_eq_true (by first | (with_reducible assumption) | assumption)
        obtain ⟨ad126, e126, hx126_0⟩ := Kd.at_int (Kd.R_reads' HO_11.out).2.2 x13_1 p126 q126
        cases e126
        replace p126 := eq_true p126
        replace q126 := eq_true q126
        go_wp2
        go_ret
        exact ⟨by first | rfl | (simp [errW_none, errW_some] <;> rfl) | (simp [*, errW_none, errW_some] <;> rfl), Sq.w HB.out⟩
       ·rw [if_neg c11] at H
        have c11b0 : decide (32768 ≤ (rd y123 x13_1)) = false := decide_eq_false c11
        clear c11
        have H' := Aside0.mk H
        clear H
        have p126 : 0 ≤ (x13_1 : Int) := of_decide_eq_true (by first | (with_reducible assumption) | assumption)
        have q126 : x13_1 < (y123.length : Int) := of_decide_eq_true (by first | (with_reducible assumption) | assumption)
        obtain ⟨ad126, e126, hx126_0⟩ := Kd.at_int (Kd.R_reads' HO_11.out).2.2 x13_1 p126 q126
        cases e126
        replace p126 := eq_true p126
        replace q126 := eq_true q126
        go_wp2
        refine Cu.handed k1 (by have := HK1.out; omega) (by assumption) ?_ (by kernel_rfl) (by kernel_rfl)
        try dsimp only [Cu.pick, Cu.rep, Cu.nth]
        exact ⟨(wrap64 (x13_1 + 1)), Sq.e, H', ⟨by have := HK1.out; omega⟩, ⟨Sq.rR HO_11.out⟩, ⟨Sq.b BK122.out⟩, ⟨Sq.w HB.out⟩⟩
     ·rw [if_neg c9] at H
      exact absurd H (by simp)
    ·rw [if_neg c8] at H
     exact absurd H (by simp)
   ·rw [if_neg c7] at H
    have c7b0 : decide (x13_1 < (y123.length : Int)) = false := decide_eq_false c7
    clear c7
    by_cases c12 : a0_3 ≥ (-128)
    ·rw [if_pos c12] at H
     have c12b0 : decide ((-128) ≤ a0_3) = true := decide_eq_true c12
     clear c12
     obtain rfl := Option.some.inj H
     obtain ⟨z13_0, z13_1, z13_2, z13_3⟩ := Sq.c4 BK122.out
     obtain ⟨y13_0, y13_1, y13_2, y13_3⟩ := Sq.f4 BK122.out
     go_wp2
     go_ret
     exact ⟨by first | rfl | (simp [errW_none, errW_some] <;> rfl) | (simp [*, errW_none, errW_some] <;> rfl), Sq.w HB.out⟩
    ·rw [if_neg c12] at H
     have c12b0 : decide ((-128) ≤ a0_3) = false := decide_eq_false c12
     clear c12
     obtain rfl := Option.some.inj H
     obtain ⟨z14_0, z14_1, z14_2, z14_3⟩ := Sq.c4 BK122.out
     obtain ⟨y14_0, y14_1, y14_2, y14_3⟩ := Sq.f4 BK122.out
     go_wp2
     go_ret
     exact ⟨by first | rfl | (simp [errW_none, errW_some] <;> rfl) | (simp [*, errW_none, errW_some] <;> rfl), Sq.w HB.out⟩

/-! ### bus_goodModel: function 30 -/
mutual
def bus_goodModel.j0 : Nat → Bool → Int → Int → List (S60) → Option (Bool)
 | 0, _, _, _, _ => none
 | k + 1, x28, x128000, x128001, x128002 => if x28 = true then (some false) else (bus_goodModel.l0 k x128002 (x128002.length : Int) 0)
def bus_goodModel.l0 : Nat → List (S60) → Int → Int → Option (Bool)
 | 0, _, _, _ => none
 | k + 1, x30, x31, x32 => if x32 < x31 then (if 0 ≤ x32 then (if x32 < (x30.length : Int) then ((bus_GoodRaw.f k ((rd_T60 x30 x32).f0) ((rd_T60 x30 x32).f1) ((rd_T60 x30 x32).f2) ((rd_T60 x30 x32).f3)).bind fun t130 => (if t130 = true then (bus_goodModel.l0 k x30 x31 (wrap64 (x32 + 1))) else (some false))) else (none)) else (none)) else (some true)
end
def bus_goodModel.f (k : Nat) (a0_0 : Int) (a0_1 : Int) (l0_2 : List (S60)) : Option (Bool) := if a0_0 < 0 then (bus_goodModel.j0 k true a0_0 a0_1 l0_2) else (if a0_0 > 127 then (bus_goodModel.j0 k true a0_0 a0_1 l0_2) else (if a0_1 < 0 then (bus_goodModel.j0 k true a0_0 a0_1 l0_2) else (if a0_1 > 255 then (bus_goodModel.j0 k true a0_0 a0_1 l0_2) else (bus_goodModel.j0 k (decide ((l0_2.length : Int) > 4096)) a0_0 a0_1 l0_2))))
theorem bus_goodModel.mono_l : ∀ k, (∀ y0 y1 y2 y3, LeO (bus_goodModel.j0 k y0 y1 y2 y3) (bus_goodModel.j0 (k + 1) y0 y1 y2 y3)) ∧ (∀ y0 y1 y2, LeO (bus_goodModel.l0 k y0 y1 y2) (bus_goodModel.l0 (k + 1) y0 y1 y2))
 | 0 => ⟨fun _ _ _ _ r h => by simp [bus_goodModel.j0] at h, fun _ _ _ r h => by simp [bus_goodModel.l0] at h⟩
 | k + 1 => by
  obtain ⟨ih0, ih1⟩ := bus_goodModel.mono_l k
  refine ⟨?_, ?_⟩
  ·intro y0 y1 y2 y3
   unfold bus_goodModel.j0
   repeat' first
   | (with_reducible exact ih0 _ _ _ _)
   | (with_reducible exact ih1 _ _ _)
   | (with_reducible exact bus_GoodRaw.mono _ _ _ _ _)
   | (with_reducible exact LeO.refl _)
   | (with_reducible exact LeO.none _)
   | (with_reducible refine LeO.ite ?_ ?_)
   | (with_reducible refine LeO.bind ?_ (fun _ => ?_))
   | exact ih0 _ _ _ _
   | exact ih1 _ _ _
   | exact bus_GoodRaw.mono _ _ _ _ _
   | exact LeO.none _
   | refine LeO.ite ?_ ?_
   | refine LeO.bind ?_ (fun _ => ?_)
  ·intro y0 y1 y2
   unfold bus_goodModel.l0
   repeat' first
   | (with_reducible exact ih0 _ _ _ _)
   | (with_reducible exact ih1 _ _ _)
   | (with_reducible exact bus_GoodRaw.mono _ _ _ _ _)
   | (with_reducible exact LeO.refl _)
   | (with_reducible exact LeO.none _)
   | (with_reducible refine LeO.ite ?_ ?_)
   | (with_reducible refine LeO.bind ?_ (fun _ => ?_))
   | exact ih0 _ _ _ _
   | exact ih1 _ _ _
   | exact bus_GoodRaw.mono _ _ _ _ _
   | exact LeO.none _
   | refine LeO.ite ?_ ?_
   | refine LeO.bind ?_ (fun _ => ?_)
theorem bus_goodModel.mono : ∀ a0 a1 a2 k, LeO (bus_goodModel.f k a0 a1 a2) (bus_goodModel.f (k + 1) a0 a1 a2) := by
 intro a0 a1 a2 k
 obtain ⟨ih0, ih1⟩ := bus_goodModel.mono_l k
 unfold bus_goodModel.f
 repeat' first
   | (with_reducible exact ih0 _ _ _ _)
   | (with_reducible exact ih1 _ _ _)
   | (with_reducible exact bus_GoodRaw.mono _ _ _ _ _)
   | (with_reducible exact LeO.refl _)
   | (with_reducible exact LeO.none _)
   | (with_reducible refine LeO.ite ?_ ?_)
   | (with_reducible refine LeO.bind ?_ (fun _ => ?_))
   | exact ih0 _ _ _ _
   | exact ih1 _ _ _
   | exact bus_GoodRaw.mono _ _ _ _ _
   | exact LeO.none _
   | refine LeO.ite ?_ ?_
   | refine LeO.bind ?_ (fun _ => ?_)
set_option maxHeartbeats 8000000 in
set_option maxRecDepth 100000 in
theorem bus_goodModel.calls (k : Nat) (a0_0 : Int) (a0_1 : Int) (A0_2 : Option Addr) (c0_2 : Nat) (l0_2 : List (S60)) (r : Bool) (w : World) (hr0_2 : Kd.C k60 w A0_2 l0_2.length l0_2) (hc0_2 : l0_2.length ≤ c0_2) (h : bus_goodModel.f k a0_0 a0_1 l0_2 = some r) :
  Calls Try.prog 30 #[.agg #[.int .i64 a0_0, .int .i64 a0_1, .slice A0_2 l0_2.length c0_2]] w fun e w' => e = .returned (.bool r) ∧ Below w.heap.size w w' := by
 have hu35 := Try.underlying35
 have hu60 := Try.underlying60
 have HR0_2 := Aside0.mk hr0_2
 have HC0_2 := Aside0.mk hc0_2
 clear hr0_2 hc0_2
 have HB := Aside0.mk (Below.refl w.heap.size w)
 have H : (if a0_0 < 0 then (bus_goodModel.j0 k true a0_0 a0_1 l0_2) else (if a0_0 > 127 then (bus_goodModel.j0 k true a0_0 a0_1 l0_2) else (if a0_1 < 0 then (bus_goodModel.j0 k true a0_0 a0_1 l0_2) else (if a0_1 > 255 then (bus_goodModel.j0 k true a0_0 a0_1 l0_2) else (bus_goodModel.j0 k (decide ((l0_2.length : Int) > 4096)) a0_0 a0_1 l0_2))))) = some r := h
 clear h
 have HC2 := Aside0.mk H
 clear H
 go_enter Try.func30, Try.ntmps30
 go_upto_region 1 with (first | ((with_reducible refine gate_dst (N := 1) rfl ?_); (try (refine gate_guard (by rfl) ?_; dsimp only)); refine box_event ?hg (N := 1) ?hd (cs := #[.int .i64 a0_0, .int .i64 a0_1, .slice A0_2 l0_2.length c0_2]) (t := 35) ?hr ?_; (case hd => rfl); (case hg => rfl); (case hr => first | (go_simp; done) | (go_simp; rfl)); intro gb127 hg w3 hbox hb; have BK127 := Aside0.mk hbox; have GW127 := Sq.ge hg HB; have GE127 := Sq.ge hg HB; replace HB := Sq.sw HB hb; clear hb hbox hg))
 (try simp only [Act.put, List.setIfInBounds_toArray, List.set_cons_zero, List.set_cons_succ])
 refine Cu.wp_cut (Cu.rep 5 Cu.f (Cu.rep 25 Cu.t (Cu.rep 3 Cu.f (Cu.rep 7 Cu.t [])))) 32 (fun us_ wc => ∃ (kq : Nat) (x28_1 : Bool), (Cu.nth us_ 23) = .bool x28_1 ∧ Aside0 (bus_goodModel.j0 kq x28_1 a0_0 a0_1 l0_2 = some r) ∧ Aside0 (kq ≤ k) ∧ Aside0 (wc.heap[gb127]? = some (.cells #[.int .i64 a0_0, .int .i64 a0_1, (.slice A0_2 l0_2.length c0_2)] 35 (0, 0))) ∧ Aside0 (Below w.heap.size w wc)) ?_ ?_
 ·
  intro _ _ _ _
  have H := HC2.out
  clear HC2
  by_cases c4 : a0_0 < 0
  ·rw [if_pos c4] at H
   have c4b0 : decide (a0_0 < 0) = true := decide_eq_true c4
   clear c4
   (first | rw [c4b0] | (simp only [i64_w, i32_w]; rw [c4b0]) | skip)
   have H' := Aside0.mk H
   clear H
   obtain ⟨z5_0, z5_1, z5_2⟩ := Sq.c3 BK127.out
   obtain ⟨y5_0, y5_1, y5_2⟩ := Sq.f3 BK127.out
   go_wp2
   refine Cu.meet (by assumption) ?_ (by kernel_rfl) (by kernel_rfl)
   try dsimp only [Cu.pick, Cu.rep, Cu.nth]
   exact ⟨_, (true), Sq.e, H', ⟨by first | omega | exact Nat.le_refl _⟩, ⟨Sq.b BK127.out⟩, ⟨Sq.w HB.out⟩⟩
  ·rw [if_neg c4] at H
   have c4b0 : decide (a0_0 < 0) = false := decide_eq_false c4
   clear c4
   (first | rw [c4b0] | (simp only [i64_w, i32_w]; rw [c4b0]) | skip)
   by_cases c6 : a0_0 > 127
   ·rw [if_pos c6] at H
    have c6b0 : decide (127 < a0_0) = true := decide_eq_true c6
    clear c6
    have H' := Aside0.mk H
    clear H
    obtain ⟨z7_0, z7_1, z7_2⟩ := Sq.c3 BK127.out
    obtain ⟨y7_0, y7_1, y7_2⟩ := Sq.f3 BK127.out
    go_wp2
    refine Cu.meet (by assumption) ?_ (by kernel_rfl) (by kernel_rfl)
    try dsimp only [Cu.pick, Cu.rep, Cu.nth]
    exact ⟨_, (true), Sq.e, H', ⟨by first | omega | exact Nat.le_refl _⟩, ⟨Sq.b BK127.out⟩, ⟨Sq.w HB.out⟩⟩
   ·rw [if_neg c6] at H
    have c6b0 : decide (127 < a0_0) = false := decide_eq_false c6
    clear c6
    by_cases c8 : a0_1 < 0
    ·rw [if_pos c8] at H
     have c8b0 : decide (a0_1 < 0) = true := decide_eq_true c8
     clear c8
     have H' := Aside0.mk H
     clear H
     obtain ⟨z9_0, z9_1, z9_2⟩ := Sq.c3 BK127.out
     obtain ⟨y9_0, y9_1, y9_2⟩ := Sq.f3 BK127.out
     go_wp2
     refine Cu.meet (by assumption) ?_ (by kernel_rfl) (by kernel_rfl)
     try dsimp only [Cu.pick, Cu.rep, Cu.nth]
     exact ⟨_, (true), Sq.e, H', ⟨by first | omega | exact Nat.le_refl _⟩, ⟨Sq.b BK127.out⟩, ⟨Sq.w HB.out⟩⟩
    ·rw [if_neg c8] at H
     have c8b0 : decide (a0_1 < 0) = false := decide_eq_false c8
     clear c8
     by_cases c10 : a0_1 > 255
     ·rw [if_pos c10] at H
      have c10b0 : decide (255 < a0_1) = true := decide_eq_true c10
      clear c10
      have H' := Aside0.mk H
      clear H
      obtain ⟨z11_0, z11_1, z11_2⟩ := Sq.c3 BK127.out
      obtain ⟨y11_0, y11_1, y11_2⟩ := Sq.f3 BK127.out
      go_wp2
      refine Cu.meet (by assumption) ?_ (by kernel_rfl) (by kernel_rfl)
      try dsimp only [Cu.pick, Cu.rep, Cu.nth]
      exact ⟨_, (true), Sq.e, H', ⟨by first | omega | exact Nat.le_refl _⟩, ⟨Sq.b BK127.out⟩, ⟨Sq.w HB.out⟩⟩
     ·rw [if_neg c10] at H
      have c10b0 : decide (255 < a0_1) = false := decide_eq_false c10
      clear c10
      have H' := Aside0.mk H
      clear H
      obtain ⟨z12_0, z12_1, z12_2⟩ := Sq.c3 BK127.out
      obtain ⟨y12_0, y12_1, y12_2⟩ := Sq.f3 BK127.out
      go_wp2
      refine Cu.meet (by assumption) ?_ (by kernel_rfl) (by kernel_rfl)
      try dsimp only [Cu.pick, Cu.rep, Cu.nth]
      exact ⟨_, (decide ((l0_2.length : Int) > 4096)), Sq.e, H', ⟨by first | omega | exact Nat.le_refl _⟩, ⟨Sq.b BK127.out⟩, ⟨Sq.w HB.out⟩⟩
 ·
  intro wc u5 u6 u7 u8 u9 u10 u11 u12 u13 u14 u15 u16 u17 u18 u19 u20 u21 u22 u23 u24 u25 u26 u27 u28 u29 u33 u34 u35 u36 u37 u38 u39
  try dsimp only [Cu.over, Cu.rep, Cu.nth]
  intro hcut
  clear HC2
  obtain ⟨kq, x28_1, rfl, HA, HJ1, BK127, HB⟩ := hcut
  cases kq with
  | zero => exact absurd HA.out (by simp [bus_goodModel.j0])
  | succ kj1 =>
   have H := HA.out
   clear HA
   simp only [bus_goodModel.j0] at H
   by_cases c13 : x28_1 = true
   ·subst c13
    have H1 : (some false) = some r := by rw [if_pos rfl] at H; exact H
    clear H
    have H := H1
    clear H1
    obtain rfl := Option.some.inj H
    go_wp2
    go_ret
    exact ⟨by first | rfl | (simp [errW_none, errW_some] <;> rfl) | (simp [*, errW_none, errW_some] <;> rfl), Sq.w HB.out⟩
   ·replace c13 := Bool.eq_false_iff.mpr c13
    subst c13
    have H1 : (bus_goodModel.l0 kj1 l0_2 (l0_2.length : Int) 0) = some r := by rw [if_neg (show ¬ (false = true) by decide)] at H; exact H
    clear H
    have H := H1
    clear H1
    have H' := Aside0.mk H
    clear H
    obtain ⟨z14_0, z14_1, z14_2⟩ := Sq.c3 BK127.out
    obtain ⟨y14_0, y14_1, y14_2⟩ := Sq.f3 BK127.out
    go_wp2
    refine Cu.wp_loop (Cu.rep 2 Cu.f (Cu.rep 1 Cu.t (Cu.rep 1 Cu.f (Cu.rep 1 Cu.t (Cu.rep 27 Cu.f (Cu.rep 8 Cu.t [])))))) 10 (fun kq us_ w' => ∃ (x32_2 : Int), (Cu.nth us_ 2) = .int .i64 x32_2 ∧ Aside0 (bus_goodModel.l0 kq l0_2 (l0_2.length : Int) x32_2 = some r) ∧ Aside0 (kq ≤ kj1) ∧ Aside0 (w'.heap[gb127]? = some (.cells #[.int .i64 a0_0, .int .i64 a0_1, (.slice A0_2 l0_2.length c0_2)] 35 (0, 0))) ∧ Aside0 (Below w.heap.size w w')) kj1 ?_ (by kernel_rfl) (by kernel_rfl) ?_
    · try dsimp only [Cu.pick, Cu.rep, Cu.nth]
      exact ⟨(0), Sq.e, H', ⟨Nat.le_refl _⟩, ⟨Sq.b BK127.out⟩, ⟨Sq.w HB.out⟩⟩
    ·
     intro gk wr u2 u4 u32 u33 u34 u35 u36 u37 u38 u39
     try dsimp only [Cu.over, Cu.rep, Cu.nth]
     intro hrel _ _ _ _
     clear H'; (try clear c13); (try clear z14_0 z14_1 z14_2); (try clear y14_0 y14_1 y14_2)
     obtain ⟨x32_2, rfl, HA, HK2, BK127, HB⟩ := hrel
     cases gk with
     | zero => exact absurd HA.out (by simp [bus_goodModel.l0])
     | succ k2 =>
      have H := HA.out
      clear HA
      simp only [bus_goodModel.l0] at H
      by_cases c15 : x32_2 < (l0_2.length : Int)
      ·rw [if_pos c15] at H
       have c15b0 : decide (x32_2 < (l0_2.length : Int)) = true := decide_eq_true c15
       clear c15
       by_cases c16 : 0 ≤ x32_2
       ·rw [if_pos c16] at H
        have c16b0 : decide (0 ≤ x32_2) = true := decide_eq_true c16
        clear c16
        by_cases c17 : x32_2 < (l0_2.length : Int)
        ·rw [if_pos c17] at H
         have c17b0 : decide (x32_2 < (l0_2.length : Int)) = true := decide_eq_true c17
         clear c17
         replace H := Option.bind_eq_some_iff.mp H
         obtain ⟨t130, A180, H⟩ := H
         replace H : (if t130 = true then (bus_goodModel.l0 k2 l0_2 (l0_2.length : Int) (wrap64 (x32_2 + 1))) else (some false)) = some r := H
         have A18 := Aside0.mk A180
         clear A180
         by_cases c19 : t130 = true
         ·subst c19
          have H1 : (bus_goodModel.l0 k2 l0_2 (l0_2.length : Int) (wrap64 (x32_2 + 1))) = some r := by rw [if_pos rfl] at H; exact H
          clear H
          have H := H1
          clear H1
          have H' := Aside0.mk H
          clear H
          have p128 : 0 ≤ (x32_2 : Int) := of_decide_eq_true (by first | (with_reducible assumption) | assumption)
          have q128 : x32_2 < (l0_2.length : Int) := of_decide_eq_true (by first | (with_reducible assumption) | assumption)
          obtain ⟨ad128, e128, hx128_0, hx128_1, hx128_2, hx128_3⟩ := at_T60 HR0_2.out x32_2 p128 q128
          cases e128
          replace hx128_0 := (HB.out.cell (World.block_lt_of_cell? w _ hx128_0)).trans hx128_0
          replace hx128_1 := (HB.out.cell (World.block_lt_of_cell? w _ hx128_1)).trans hx128_1
          replace hx128_2 := (HB.out.cell (World.block_lt_of_cell? w _ hx128_2)).trans hx128_2
          replace hx128_3 := (HB.out.cell (World.block_lt_of_cell? w _ hx128_3)).trans hx128_3
          replace p128 := eq_true p128
          replace q128 := eq_true q128
          go_wp2_with (first | ((with_reducible refine gate_dst (N := 4) rfl ?_); (try (refine gate_guard (by rfl) ?_; dsimp only)); refine box_event ?hg (N := 4) ?hd (cs := #[.int .i64 0, .int .i64 0, .int .i64 0, .int .i64 0]) (t := 60) ?hr ?_; (case hd => rfl); (case hg => rfl); (case hr => first | (go_simp; done) | (go_simp; rfl)); intro gb129 hg w20 hbox hb; have BK129 := Aside0.mk hbox; have GW129 := Sq.ge hg HB; have GE129 := Sq.ge hg HB; obtain ⟨NB127_129, NB129_127⟩ := Sq.np hg BK127; replace BK127 := Sq.sb BK127 hb; replace HB := Sq.sw HB hb; clear hb hbox hg; have b21 := NB129_127.out; have d21 := NB127_129.out; obtain ⟨z22_0, z22_1, z22_2, z22_3⟩ := Sq.c4 BK129.out; obtain ⟨y22_0, y22_1, y22_2, y22_3⟩ := Sq.f4 BK129.out) | ((with_reducible refine gate_callee (f := 46) rfl ?_); refine goesL_ (some 37) rfl rfl Try.func46 (by kernel_rfl) rfl #[.agg #[.int .i64 ((rd_T60 l0_2 x32_2).f0), .int .i64 ((rd_T60 l0_2 x32_2).f1), .int .i64 ((rd_T60 l0_2 x32_2).f2), .int .i64 ((rd_T60 l0_2 x32_2).f3)]] rfl Sq.m ?_; (with_reducible refine (bus_GoodRaw.calls k2 ((rd_T60 l0_2 x32_2).f0) ((rd_T60 l0_2 x32_2).f1) ((rd_T60 l0_2 x32_2).f2) ((rd_T60 l0_2 x32_2).f3) true _ A18.out).mono ?_); rintro e w23 ⟨rfl, hb⟩; refine ⟨_, rfl, ?_⟩; replace BK127 := Sq.sF BK127 hb; replace BK129 := Aside0.mk (blk_below (g := gb129) (o := .cells #[.int .i64 ((rd_T60 l0_2 x32_2).f0), .int .i64 ((rd_T60 l0_2 x32_2).f1), .int .i64 ((rd_T60 l0_2 x32_2).f2), .int .i64 ((rd_T60 l0_2 x32_2).f3)] 60 (0, 0)) (Sq.B BK129.out) hb); replace HB := Sq.sw HB hb; (try clear hb); (try clear hb2); (try clear hk); (try clear hi)))
          refine Cu.handed k2 (by have := HJ1.out; have := HK2.out; omega) (by assumption) ?_ (by kernel_rfl) (by kernel_rfl)
          try dsimp only [Cu.pick, Cu.rep, Cu.nth]
          exact ⟨(wrap64 (x32_2 + 1)), Sq.e, H', ⟨by have := HJ1.out; have := HK2.out; omega⟩, ⟨Sq.b BK127.out⟩, ⟨Sq.w HB.out⟩⟩
         ·replace c19 := Bool.eq_false_iff.mpr c19
          subst c19
          have H1 : (some false) = some r := by rw [if_neg (show ¬ (false = true) by decide)] at H; exact H
          clear H
          have H := H1
          clear H1
          obtain rfl := Option.some.inj H
          have p128 : 0 ≤ (x32_2 : Int) := of_decide_eq_true (by first | (with_reducible assumption) | assumption)
          have q128 : x32_2 < (l0_2.length : Int) := of_decide_eq_true (by first | (with_reducible assumption) | assumption)
          obtain ⟨ad128, e128, hx128_0, hx128_1, hx128_2, hx128_3⟩ := at_T60 HR0_2.out x32_2 p128 q128
          cases e128
          replace hx128_0 := (HB.out.cell (World.block_lt_of_cell? w _ hx128_0)).trans hx128_0
          replace hx128_1 := (HB.out.cell (World.block_lt_of_cell? w _ hx128_1)).trans hx128_1
          replace hx128_2 := (HB.out.cell (World.block_lt_of_cell? w _ hx128_2)).trans hx128_2
          replace hx128_3 := (HB.out.cell (World.block_lt_of_cell? w _ hx128_3)).trans hx128_3
          replace p128 := eq_true p128
          replace q128 := eq_true q128
          go_wp2_with (first | ((with_reducible refine gate_dst (N := 4) rfl ?_); (try (refine gate_guard (by rfl) ?_; dsimp only)); refine box_event ?hg (N := 4) ?hd (cs := #[.int .i64 0, .int .i64 0, .int .i64 0, .int .i64 0]) (t := 60) ?hr ?_; (case hd => rfl); (case hg => rfl); (case hr => first | (go_simp; done) | (go_simp; rfl)); intro gb129 hg w24 hbox hb; have BK129 := Aside0.mk hbox; have GW129 := Sq.ge hg HB; have GE129 := Sq.ge hg HB; obtain ⟨NB127_129, NB129_127⟩ := Sq.np hg BK127; replace BK127 := Sq.sb BK127 hb; replace HB := Sq.sw HB hb; clear hb hbox hg; have b25 := NB129_127.out; have d25 := NB127_129.out; obtain ⟨z26_0, z26_1, z26_2, z26_3⟩ := Sq.c4 BK129.out; obtain ⟨y26_0, y26_1, y26_2, y26_3⟩ := Sq.f4 BK129.out) | ((with_reducible refine gate_callee (f := 46) rfl ?_); refine goesL_ (some 37) rfl rfl Try.func46 (by kernel_rfl) rfl #[.agg #[.int .i64 ((rd_T60 l0_2 x32_2).f0), .int .i64 ((rd_T60 l0_2 x32_2).f1), .int .i64 ((rd_T60 l0_2 x32_2).f2), .int .i64 ((rd_T60 l0_2 x32_2).f3)]] rfl Sq.m ?_; (with_reducible refine (bus_GoodRaw.calls k2 ((rd_T60 l0_2 x32_2).f0) ((rd_T60 l0_2 x32_2).f1) ((rd_T60 l0_2 x32_2).f2) ((rd_T60 l0_2 x32_2).f3) false _ A18.out).mono ?_); rintro e w27 ⟨rfl, hb⟩; refine ⟨_, rfl, ?_⟩; replace BK127 := Sq.sF BK127 hb; replace BK129 := Aside0.mk (blk_below (g := gb129) (o := .cells #[.int .i64 ((rd_T60 l0_2 x32_2).f0), .int .i64 ((rd_T60 l0_2 x32_2).f1), .int .i64 ((rd_T60 l0_2 x32_2).f2), .int .i64 ((rd_T60 l0_2 x32_2).f3)] 60 (0, 0)) (Sq.B BK129.out) hb); replace HB := Sq.sw HB hb; (try clear hb); (try clear hb2); (try clear hk); (try clear hi)))
          go_ret
          exact ⟨by first | rfl | (simp [errW_none, errW_some] <;> rfl) | (simp [*, errW_none, errW_some] <;> rfl), Sq.w HB.out⟩
        ·rw [if_neg c17] at H
         exact absurd H (by simp)
       ·rw [if_neg c16] at H
        exact absurd H (by simp)
      ·rw [if_neg c15] at H
       have c15b0 : decide (x32_2 < (l0_2.length : Int)) = false := decide_eq_false c15
       clear c15
       obtain rfl := Option.some.inj H
       go_wp2
       go_ret
       exact ⟨by first | rfl | (simp [errW_none, errW_some] <;> rfl) | (simp [*, errW_none, errW_some] <;> rfl), Sq.w HB.out⟩

-- NOT PRINTED: function 31 (bus_Bus_find)

-- NOT PRINTED: function 32 (api_Raw)

-- NOT PRINTED: function 9 (bus_New)

/-! ### bus_Good: function 33 -/
def bus_Good.j0 : Nat → Bool → Int → Int → List Int → Int → Option (Bool)
 | 0, _, _, _, _, _ => none
 | k + 1, x20, x132000, x132001, x132002, x132003 => if x20 = true then (some false) else (if (x132002.length : Int) > 0 then (if (x132002.length : Int) ≤ 8 then (some (x132003 == 0)) else (some false)) else (if x132003 ≥ 1 then (some (decide (x132003 ≤ 128))) else (some false)))
def bus_Good.f (k : Nat) (a0_0 : Int) (a0_1 : Int) (l0_2 : List Int) (a0_3 : Int) : Option (Bool) := if a0_0 < 0 then (bus_Good.j0 k true a0_0 a0_1 l0_2 a0_3) else (if a0_0 > 127 then (bus_Good.j0 k true a0_0 a0_1 l0_2 a0_3) else (if a0_1 < 0 then (bus_Good.j0 k true a0_0 a0_1 l0_2 a0_3) else (bus_Good.j0 k (decide (a0_1 > 5)) a0_0 a0_1 l0_2 a0_3)))
theorem bus_Good.mono_l : ∀ k, (∀ y0 y1 y2 y3 y4, LeO (bus_Good.j0 k y0 y1 y2 y3 y4) (bus_Good.j0 (k + 1) y0 y1 y2 y3 y4))
 | 0 => fun _ _ _ _ _ r h => by simp [bus_Good.j0] at h
 | k + 1 => by
  have ih0 := bus_Good.mono_l k
  ·intro y0 y1 y2 y3 y4
   unfold bus_Good.j0
   repeat' first
   | (with_reducible exact ih0 _ _ _ _ _)
   | (with_reducible exact LeO.refl _)
   | (with_reducible exact LeO.none _)
   | (with_reducible refine LeO.ite ?_ ?_)
   | (with_reducible refine LeO.bind ?_ (fun _ => ?_))
   | exact ih0 _ _ _ _ _
   | exact LeO.none _
   | refine LeO.ite ?_ ?_
   | refine LeO.bind ?_ (fun _ => ?_)
theorem bus_Good.mono : ∀ a0 a1 a2 a3 k, LeO (bus_Good.f k a0 a1 a2 a3) (bus_Good.f (k + 1) a0 a1 a2 a3) := by
 intro a0 a1 a2 a3 k
 have ih0 := bus_Good.mono_l k
 unfold bus_Good.f
 repeat' first
   | (with_reducible exact ih0 _ _ _ _ _)
   | (with_reducible exact LeO.refl _)
   | (with_reducible exact LeO.none _)
   | (with_reducible refine LeO.ite ?_ ?_)
   | (with_reducible refine LeO.bind ?_ (fun _ => ?_))
   | exact ih0 _ _ _ _ _
   | exact LeO.none _
   | refine LeO.ite ?_ ?_
   | refine LeO.bind ?_ (fun _ => ?_)
set_option maxHeartbeats 8000000 in
set_option maxRecDepth 100000 in
theorem bus_Good.calls (k : Nat) (a0_0 : Int) (a0_1 : Int) (A0_2 : Option Addr) (c0_2 : Nat) (l0_2 : List Int) (a0_3 : Int) (r : Bool) (w : World) (hr0_2 : Kd.C (Kd.int .u8) w A0_2 l0_2.length l0_2) (hc0_2 : l0_2.length ≤ c0_2) (h : bus_Good.f k a0_0 a0_1 l0_2 a0_3 = some r) :
  Calls Try.prog 33 #[.agg #[.int .i64 a0_0, .int .i64 a0_1, .slice A0_2 l0_2.length c0_2, .int .i64 a0_3]] w fun e w' => e = .returned (.bool r) ∧ Below w.heap.size w w' := by
 have hu39 := Try.underlying39
 have HR0_2 := Aside0.mk hr0_2
 have HC0_2 := Aside0.mk hc0_2
 clear hr0_2 hc0_2
 have HB := Aside0.mk (Below.refl w.heap.size w)
 have H : (if a0_0 < 0 then (bus_Good.j0 k true a0_0 a0_1 l0_2 a0_3) else (if a0_0 > 127 then (bus_Good.j0 k true a0_0 a0_1 l0_2 a0_3) else (if a0_1 < 0 then (bus_Good.j0 k true a0_0 a0_1 l0_2 a0_3) else (bus_Good.j0 k (decide (a0_1 > 5)) a0_0 a0_1 l0_2 a0_3)))) = some r := h
 clear h
 have HC2 := Aside0.mk H
 clear H
 go_enter Try.func33, Try.ntmps33
 go_upto_region 1 with (first | ((with_reducible refine gate_dst (N := 1) rfl ?_); refine box_event ?hg (N := 1) ?hd (cs := #[.int .i64 a0_0, .int .i64 a0_1, .slice A0_2 l0_2.length c0_2, .int .i64 a0_3]) (t := 39) ?hr ?_; (case hd => rfl); (case hg => rfl); (case hr => first | (go_simp; done) | (go_simp; rfl)); intro gb131 hg w3 hbox hb; have BK131 := Aside0.mk hbox; have GW131 := Sq.ge hg HB; have GE131 := Sq.ge hg HB; replace HB := Sq.sw HB hb; clear hb hbox hg))
 (try simp only [Act.put, List.setIfInBounds_toArray, List.set_cons_zero, List.set_cons_succ])
 refine Cu.wp_cut (Cu.rep 3 Cu.f (Cu.rep 39 Cu.t [])) 39 (fun us_ wc => ∃ (kq : Nat) (x20_1 : Bool), (Cu.nth us_ 17) = .bool x20_1 ∧ Aside0 (bus_Good.j0 kq x20_1 a0_0 a0_1 l0_2 a0_3 = some r) ∧ Aside0 (kq ≤ k) ∧ Aside0 (wc.heap[gb131]? = some (.cells #[.int .i64 a0_0, .int .i64 a0_1, (.slice A0_2 l0_2.length c0_2), .int .i64 a0_3] 39 (0, 0))) ∧ Aside0 (Below w.heap.size w wc)) ?_ ?_
 ·
  intro _ _ _ _
  have H := HC2.out
  clear HC2
  by_cases c4 : a0_0 < 0
  ·rw [if_pos c4] at H
   have c4b0 : decide (a0_0 < 0) = true := decide_eq_true c4
   clear c4
   (first | rw [c4b0] | (simp only [i64_w, i32_w]; rw [c4b0]) | skip)
   have H' := Aside0.mk H
   clear H
   obtain ⟨z5_0, z5_1, z5_2, z5_3⟩ := Sq.c4 BK131.out
   obtain ⟨y5_0, y5_1, y5_2, y5_3⟩ := Sq.f4 BK131.out
   go_wp2
   refine Cu.meet (by assumption) ?_ (by kernel_rfl) (by kernel_rfl)
   try dsimp only [Cu.pick, Cu.rep, Cu.nth]
   exact ⟨_, (true), Sq.e, H', ⟨by first | omega | exact Nat.le_refl _⟩, ⟨Sq.b BK131.out⟩, ⟨Sq.w HB.out⟩⟩
  ·rw [if_neg c4] at H
   have c4b0 : decide (a0_0 < 0) = false := decide_eq_false c4
   clear c4
   (first | rw [c4b0] | (simp only [i64_w, i32_w]; rw [c4b0]) | skip)
   by_cases c6 : a0_0 > 127
   ·rw [if_pos c6] at H
    have c6b0 : decide (127 < a0_0) = true := decide_eq_true c6
    clear c6
    have H' := Aside0.mk H
    clear H
    obtain ⟨z7_0, z7_1, z7_2, z7_3⟩ := Sq.c4 BK131.out
    obtain ⟨y7_0, y7_1, y7_2, y7_3⟩ := Sq.f4 BK131.out
    go_wp2
    refine Cu.meet (by assumption) ?_ (by kernel_rfl) (by kernel_rfl)
    try dsimp only [Cu.pick, Cu.rep, Cu.nth]
    exact ⟨_, (true), Sq.e, H', ⟨by first | omega | exact Nat.le_refl _⟩, ⟨Sq.b BK131.out⟩, ⟨Sq.w HB.out⟩⟩
   ·rw [if_neg c6] at H
    have c6b0 : decide (127 < a0_0) = false := decide_eq_false c6
    clear c6
    by_cases c8 : a0_1 < 0
    ·rw [if_pos c8] at H
     have c8b0 : decide (a0_1 < 0) = true := decide_eq_true c8
     clear c8
     have H' := Aside0.mk H
     clear H
     obtain ⟨z9_0, z9_1, z9_2, z9_3⟩ := Sq.c4 BK131.out
     obtain ⟨y9_0, y9_1, y9_2, y9_3⟩ := Sq.f4 BK131.out
     go_wp2
     refine Cu.meet (by assumption) ?_ (by kernel_rfl) (by kernel_rfl)
     try dsimp only [Cu.pick, Cu.rep, Cu.nth]
     exact ⟨_, (true), Sq.e, H', ⟨by first | omega | exact Nat.le_refl _⟩, ⟨Sq.b BK131.out⟩, ⟨Sq.w HB.out⟩⟩
    ·rw [if_neg c8] at H
     have c8b0 : decide (a0_1 < 0) = false := decide_eq_false c8
     clear c8
     have H' := Aside0.mk H
     clear H
     obtain ⟨z10_0, z10_1, z10_2, z10_3⟩ := Sq.c4 BK131.out
     obtain ⟨y10_0, y10_1, y10_2, y10_3⟩ := Sq.f4 BK131.out
     go_wp2
     refine Cu.meet (by assumption) ?_ (by kernel_rfl) (by kernel_rfl)
     try dsimp only [Cu.pick, Cu.rep, Cu.nth]
     exact ⟨_, (decide (a0_1 > 5)), Sq.e, H', ⟨by first | omega | exact Nat.le_refl _⟩, ⟨Sq.b BK131.out⟩, ⟨Sq.w HB.out⟩⟩
 ·
  intro wc u3 u4 u5 u6 u7 u8 u9 u10 u11 u12 u13 u14 u15 u16 u17 u18 u19 u20 u21 u22 u23 u24 u25 u26 u27 u28 u29 u30 u31 u32 u33 u34 u35 u36 u37 u38 u39 u40 u41
  try dsimp only [Cu.over, Cu.rep, Cu.nth]
  intro hcut
  clear HC2
  obtain ⟨kq, x20_1, rfl, HA, HJ1, BK131, HB⟩ := hcut
  cases kq with
  | zero => exact absurd HA.out (by simp [bus_Good.j0])
  | succ kj1 =>
   have H := HA.out
   clear HA
   simp only [bus_Good.j0] at H
   by_cases c11 : x20_1 = true
   ·subst c11
    have H1 : (some false) = some r := by rw [if_pos rfl] at H; exact H
    clear H
    have H := H1
    clear H1
    obtain rfl := Option.some.inj H
    go_wp2
    go_ret
    exact ⟨by first | rfl | (simp [errW_none, errW_some] <;> rfl) | (simp [*, errW_none, errW_some] <;> rfl), Sq.w HB.out⟩
   ·replace c11 := Bool.eq_false_iff.mpr c11
    subst c11
    have H1 : (if (l0_2.length : Int) > 0 then (if (l0_2.length : Int) ≤ 8 then (some (a0_3 == 0)) else (some false)) else (if a0_3 ≥ 1 then (some (decide (a0_3 ≤ 128))) else (some false))) = some r := by rw [if_neg (show ¬ (false = true) by decide)] at H; exact H
    clear H
    have H := H1
    clear H1
    by_cases c12 : (l0_2.length : Int) > 0
    ·rw [if_pos c12] at H
     have c12b0 : decide (0 < (l0_2.length : Int)) = true := decide_eq_true c12
     have c12b1 : decide (0 < l0_2.length) = true := decide_eq_true (by omega)
     clear c12
     by_cases c13 : (l0_2.length : Int) ≤ 8
     ·rw [if_pos c13] at H
      have c13b0 : decide ((l0_2.length : Int) ≤ 8) = true := decide_eq_true c13
      have c13b1 : decide (l0_2.length ≤ 8) = true := decide_eq_true (by omega)
      clear c13
      obtain rfl := Option.some.inj H
      obtain ⟨z14_0, z14_1, z14_2, z14_3⟩ := Sq.c4 BK131.out
      obtain ⟨y14_0, y14_1, y14_2, y14_3⟩ := Sq.f4 BK131.out
      go_wp2
      go_ret
      exact ⟨by first | rfl | (simp [errW_none, errW_some] <;> rfl) | (simp [*, errW_none, errW_some] <;> rfl), Sq.w HB.out⟩
     ·rw [if_neg c13] at H
      have c13b0 : decide ((l0_2.length : Int) ≤ 8) = false := decide_eq_false c13
      have c13b1 : decide (l0_2.length ≤ 8) = false := decide_eq_false (by omega)
      clear c13
      obtain rfl := Option.some.inj H
      obtain ⟨z15_0, z15_1, z15_2, z15_3⟩ := Sq.c4 BK131.out
      obtain ⟨y15_0, y15_1, y15_2, y15_3⟩ := Sq.f4 BK131.out
      go_wp2
      go_ret
      exact ⟨by first | rfl | (simp [errW_none, errW_some] <;> rfl) | (simp [*, errW_none, errW_some] <;> rfl), Sq.w HB.out⟩
    ·rw [if_neg c12] at H
     have c12b0 : decide (0 < (l0_2.length : Int)) = false := decide_eq_false c12
     have c12b1 : decide (0 < l0_2.length) = false := decide_eq_false (by omega)
     clear c12
     by_cases c16 : a0_3 ≥ 1
     ·rw [if_pos c16] at H
      have c16b0 : decide (1 ≤ a0_3) = true := decide_eq_true c16
      clear c16
      obtain rfl := Option.some.inj H
      obtain ⟨z17_0, z17_1, z17_2, z17_3⟩ := Sq.c4 BK131.out
      obtain ⟨y17_0, y17_1, y17_2, y17_3⟩ := Sq.f4 BK131.out
      go_wp2
      go_ret
      exact ⟨by first | rfl | (simp [errW_none, errW_some] <;> rfl) | (simp [*, errW_none, errW_some] <;> rfl), Sq.w HB.out⟩
     ·rw [if_neg c16] at H
      have c16b0 : decide (1 ≤ a0_3) = false := decide_eq_false c16
      clear c16
      obtain rfl := Option.some.inj H
      obtain ⟨z18_0, z18_1, z18_2, z18_3⟩ := Sq.c4 BK131.out
      obtain ⟨y18_0, y18_1, y18_2, y18_3⟩ := Sq.f4 BK131.out
      go_wp2
      go_ret
      exact ⟨by first | rfl | (simp [errW_none, errW_some] <;> rfl) | (simp [*, errW_none, errW_some] <;> rfl), Sq.w HB.out⟩

-- NOT PRINTED: function 56 (api_Raw_place)

-- NOT PRINTED: function 54 (api_Raw_Pop)

-- NOT PRINTED: function 57 (api_Raw_Clear)

-- NOT PRINTED: function 53 (bus_device_power)

-- NOT PRINTED: function 47 (bus_device_write)

/-! ### bus_Check: function 58 -/
def bus_Check.l0 : Nat → Int → List Int → Int → Int → Option (Int)
 | 0, _, _, _, _ => none
 | k + 1, x3, x6, x7, x8 => if x8 < x7 then (if 0 ≤ x8 then (if x8 < (x6.length : Int) then (bus_Check.l0 k (Go.bits .xor .u8 x3 (rd x6 x8)) x6 x7 (wrap64 (x8 + 1))) else (none)) else (none)) else (some x3)
def bus_Check.f (k : Nat) (l0 : List Int) : Option (Int) := bus_Check.l0 k 90 l0 (l0.length : Int) 0
theorem bus_Check.mono_l : ∀ k, (∀ y0 y1 y2 y3, LeO (bus_Check.l0 k y0 y1 y2 y3) (bus_Check.l0 (k + 1) y0 y1 y2 y3))
 | 0 => fun _ _ _ _ r h => by simp [bus_Check.l0] at h
 | k + 1 => by
  have ih0 := bus_Check.mono_l k
  ·intro y0 y1 y2 y3
   unfold bus_Check.l0
   repeat' first
   | (with_reducible exact ih0 _ _ _ _)
   | (with_reducible exact LeO.refl _)
   | (with_reducible exact LeO.none _)
   | (with_reducible refine LeO.ite ?_ ?_)
   | (with_reducible refine LeO.bind ?_ (fun _ => ?_))
   | exact ih0 _ _ _ _
   | exact LeO.none _
   | refine LeO.ite ?_ ?_
   | refine LeO.bind ?_ (fun _ => ?_)
theorem bus_Check.mono : ∀ a0 k, LeO (bus_Check.f k a0) (bus_Check.f (k + 1) a0) := by
 intro a0 k
 have ih0 := bus_Check.mono_l k
 unfold bus_Check.f
 repeat' first
   | (with_reducible exact ih0 _ _ _ _)
   | (with_reducible exact LeO.refl _)
   | (with_reducible exact LeO.none _)
   | (with_reducible refine LeO.ite ?_ ?_)
   | (with_reducible refine LeO.bind ?_ (fun _ => ?_))
   | exact ih0 _ _ _ _
   | exact LeO.none _
   | refine LeO.ite ?_ ?_
   | refine LeO.bind ?_ (fun _ => ?_)
set_option maxHeartbeats 8000000 in
set_option maxRecDepth 100000 in
theorem bus_Check.calls (k : Nat) (A0 : Option Addr) (c0 : Nat) (l0 : List Int) (r : Int) (w : World) (hr0 : Kd.C (Kd.int .u8) w A0 l0.length l0) (hc0 : l0.length ≤ c0) (h : bus_Check.f k l0 = some r) :
  Calls Try.prog 58 #[.slice A0 l0.length c0] w fun e w' => e = .returned (.int .u8 r) ∧ Drawn0 w w' := by
 have HR0 := Aside0.mk hr0
 have HC0 := Aside0.mk hc0
 clear hr0 hc0
 have H : (bus_Check.l0 k 90 l0 (l0.length : Int) 0) = some r := h
 clear h
 have H' := Aside0.mk H
 clear H
 go_enter Try.func58, Try.ntmps58
 go_wp2
 refine Cu.wp_loop (Cu.rep 3 Cu.f (Cu.rep 1 Cu.t (Cu.rep 1 Cu.f (Cu.rep 1 Cu.t (Cu.rep 2 Cu.f (Cu.rep 8 Cu.t (Cu.rep 1 Cu.f []))))))) 10 (fun kq us_ w' => ∃ (x3_1 : Int) (x8_1 : Int), (Cu.nth us_ 0) = .int .u8 x3_1 ∧ (Cu.nth us_ 2) = .int .i64 x8_1 ∧ Aside0 (bus_Check.l0 kq x3_1 l0 (l0.length : Int) x8_1 = some r) ∧ Aside0 (kq ≤ k) ∧ Drawn0 w w') k ?_ (by kernel_rfl) (by kernel_rfl) ?_
 · try dsimp only [Cu.pick, Cu.rep, Cu.nth]
   exact ⟨(90), (0), Sq.e, Sq.e, H', ⟨Nat.le_refl _⟩, by repeat (first | exact Drawn0.refl _ | apply Drawn0.step)⟩
 ·
  intro gk wr u3 u5 u8 u9 u10 u11 u12 u13 u14 u15
  try dsimp only [Cu.over, Cu.rep, Cu.nth]
  intro hrel _ _ _ _
  clear H'
  obtain ⟨x3_1, x8_1, rfl, rfl, HA, HK1, ⟨m1, rfl⟩⟩ := hrel
  cases gk with
  | zero => exact absurd HA.out (by simp [bus_Check.l0])
  | succ k1 =>
   have H := HA.out
   clear HA
   simp only [bus_Check.l0] at H
   by_cases c2 : x8_1 < (l0.length : Int)
   ·rw [if_pos c2] at H
    have c2b0 : decide (x8_1 < (l0.length : Int)) = true := decide_eq_true c2
    clear c2
    by_cases c3 : 0 ≤ x8_1
    ·rw [if_pos c3] at H
     have c3b0 : decide (0 ≤ x8_1) = true := decide_eq_true c3
     clear c3
     by_cases c4 : x8_1 < (l0.length : Int)
     ·rw [if_pos c4] at H
      have c4b0 : decide (x8_1 < (l0.length : Int)) = true := decide_eq_true c4
      clear c4
      have H' := Aside0.mk H
      clear H
      have p132 : 0 ≤ (x8_1 : Int) := of_decide_eq_true (by first | (with_reducible assumption) | assumption)
      have q132 : x8_1 < (l0.length : Int) := of_decide_eq_true (by first | (with_reducible assumption) | assumption)
      obtain ⟨ad132, e132, hx132_0⟩ := Kd.at_int HR0.out x8_1 p132 q132
      cases e132
      replace p132 := eq_true p132
      replace q132 := eq_true q132
      go_wp2
      refine Cu.handed k1 (by have := HK1.out; omega) (by assumption) ?_ (by kernel_rfl) (by kernel_rfl)
      try dsimp only [Cu.pick, Cu.rep, Cu.nth]
      exact ⟨(Go.bits .xor .u8 x3_1 (rd l0 x8_1)), (wrap64 (x8_1 + 1)), Sq.e, Sq.e, H', ⟨by have := HK1.out; omega⟩, by repeat (first | exact Drawn0.refl _ | apply Drawn0.step)⟩
     ·rw [if_neg c4] at H
      exact absurd H (by simp)
    ·rw [if_neg c3] at H
     exact absurd H (by simp)
   ·rw [if_neg c2] at H
    have c2b0 : decide (x8_1 < (l0.length : Int)) = false := decide_eq_false c2
    clear c2
    obtain rfl := Option.some.inj H
    go_wp2
    go_ret
    exact ⟨by first | rfl | (simp; done) | (simp [*]; done), by repeat (first | exact Drawn0.refl _ | apply Drawn0.step)⟩

/-! ### bus_Bytes: function 55 -/
def bus_Bytes.f (k : Nat) (a0_0 : Int) (a0_1 : Int) (a0_2 : Int) (a0_3 : Int) : Option (List Int) := (some (([(a0_0 / 256) % 256, (a0_0) % 256, (a0_1 / 256) % 256, (a0_1) % 256, (a0_2 / 256) % 256, (a0_2) % 256, (a0_3) % 256] : List Int) : List Int)).bind fun y134 => ((bus_Check.f k y134).bind fun t137 => (if y134.length < 140737488355328 then (some (y134 ++ [t137])) else (none)))
theorem bus_Bytes.mono : ∀ a0 a1 a2 a3 k, LeO (bus_Bytes.f k a0 a1 a2 a3) (bus_Bytes.f (k + 1) a0 a1 a2 a3) := by
 intro a0 a1 a2 a3 k
 unfold bus_Bytes.f
 repeat' first
   | (with_reducible exact bus_Check.mono _ _)
   | (with_reducible exact LeO.refl _)
   | (with_reducible exact LeO.none _)
   | (with_reducible refine LeO.ite ?_ ?_)
   | (with_reducible refine LeO.bind ?_ (fun _ => ?_))
   | exact bus_Check.mono _ _
   | exact LeO.none _
   | refine LeO.ite ?_ ?_
   | refine LeO.bind ?_ (fun _ => ?_)
set_option maxHeartbeats 8000000 in
set_option maxRecDepth 100000 in
theorem bus_Bytes.calls (k : Nat) (a0_0 : Int) (a0_1 : Int) (a0_2 : Int) (a0_3 : Int) (r : List Int) (w : World) (h : bus_Bytes.f k a0_0 a0_1 a0_2 a0_3 = some r) :
  Calls Try.prog 55 #[.agg #[.int .i64 a0_0, .int .i64 a0_1, .int .i64 a0_2, .int .i64 a0_3]] w fun e w' => ∃ v0_ : Value, e = .returned (v0_) ∧ Kd.R (Kd.int .u8) 5 w' w.heap.size (fun _ => True) v0_ r ∧ Below w.heap.size w w' := by
 have hu60 := Try.underlying60
 have HB := Aside0.mk (Below.refl w.heap.size w)
 have H : ((some (([(a0_0 / 256) % 256, (a0_0) % 256, (a0_1 / 256) % 256, (a0_1) % 256, (a0_2 / 256) % 256, (a0_2) % 256, (a0_3) % 256] : List Int) : List Int)).bind fun y134 => ((bus_Check.f k y134).bind fun t137 => (if y134.length < 140737488355328 then (some (y134 ++ [t137])) else (none)))) = some r := h
 clear h
 obtain ⟨y134, hy134⟩ : ∃ y_ : List Int, y_ = (([(a0_0 / 256) % 256, (a0_0) % 256, (a0_1 / 256) % 256, (a0_1) % 256, (a0_2 / 256) % 256, (a0_2) % 256, (a0_3) % 256] : List Int)) := ⟨_, rfl⟩
 replace H : ((bus_Check.f k y134).bind fun t137 => (if y134.length < 140737488355328 then (some (y134 ++ [t137])) else (none))) = some r := by first | (rw [hy134]; with_reducible exact H) | (have H2_ := (Option.bind_some _ _).symm.trans H; rw [hy134]; with_reducible exact H2_) | (have H2_ := (Option.bind_some _ _).symm.trans H; with_reducible exact H2_) | with_reducible exact H | (rw [hy134]; exact H) | exact H
 have Ny134 := Aside0.mk hy134
 clear hy134
 replace H := Option.bind_eq_some_iff.mp H
 obtain ⟨t137, A20, H⟩ := H
 replace H : (if y134.length < 140737488355328 then (some (y134 ++ [t137])) else (none)) = some r := H
 have A2 := Aside0.mk A20
 clear A20
 by_cases c3 : y134.length < 140737488355328
 ·rw [if_pos c3] at H
  have LMc3 := Aside0.mk c3
  clear c3
  obtain ⟨y138, hy138⟩ : ∃ y_ : List Int, y_ = (y134 ++ [t137]) := ⟨_, rfl⟩
  replace H : (some y138) = some r := by first | (rw [hy138]; with_reducible exact H) | (have H2_ := (Option.bind_some _ _).symm.trans H; rw [hy138]; with_reducible exact H2_) | (have H2_ := (Option.bind_some _ _).symm.trans H; with_reducible exact H2_) | with_reducible exact H | (rw [hy138]; exact H) | exact H
  have Ny138 := Aside0.mk hy138
  clear hy138
  obtain rfl := Option.some.inj H
  go_enter Try.func55, Try.ntmps55
  go_wp2_with (first | ((with_reducible refine gate_dst (N := 1) rfl ?_); refine box_event ?hg (N := 1) ?hd (cs := #[.int .i64 a0_0, .int .i64 a0_1, .int .i64 a0_2, .int .i64 a0_3]) (t := 60) ?hr ?_; (case hd => rfl); (case hg => rfl); (case hr => first | (go_simp; done) | (go_simp; rfl)); intro gb133 hg w4 hbox hb; have BK133 := Aside0.mk hbox; have GW133 := Sq.ge hg HB; have GE133 := Sq.ge hg HB; replace HB := Sq.sw HB hb; clear hb hbox hg; obtain ⟨z5_0, z5_1, z5_2, z5_3⟩ := Sq.c4 BK133.out; obtain ⟨y5_0, y5_1, y5_2, y5_3⟩ := Sq.f4 BK133.out) | ((with_reducible refine gate_dst (N := 28) rfl ?_); refine Kd.R_lit (Kd.int .u8) _ 5 ?hg (N := 28) ?hd (xs := ([(a0_0 / 256) % 256, (a0_0) % 256, (a0_1 / 256) % 256, (a0_1) % 256, (a0_2 / 256) % 256, (a0_2) % 256, (a0_3) % 256] : List Int)) (inner := [.int .u8 ((a0_0 / 256) % 256), .int .u8 ((a0_0) % 256), .int .u8 ((a0_1 / 256) % 256), .int .u8 ((a0_1) % 256), .int .u8 ((a0_2 / 256) % 256), .int .u8 ((a0_2) % 256), .int .u8 ((a0_3) % 256)]) (ok := fun _ => True) (okp := fun _ => True) ?hr ?hp (fun _ hk => hk) trivial (Below.refl _ _) (Nat.le_refl _) (by simp) ?_; (case hd => rfl); (case hg => rfl); (case hr => first | (go_simp; done) | (go_simp; rfl)); (case hp => exact (Reps.one (show Kd.M (Kd.int .u8) _ _ _ ((a0_0 / 256) % 256) [.int .u8 ((a0_0 / 256) % 256)] from rfl) (Reps.one (show Kd.M (Kd.int .u8) _ _ _ ((a0_0) % 256) [.int .u8 ((a0_0) % 256)] from rfl) (Reps.one (show Kd.M (Kd.int .u8) _ _ _ ((a0_1 / 256) % 256) [.int .u8 ((a0_1 / 256) % 256)] from rfl) (Reps.one (show Kd.M (Kd.int .u8) _ _ _ ((a0_1) % 256) [.int .u8 ((a0_1) % 256)] from rfl) (Reps.one (show Kd.M (Kd.int .u8) _ _ _ ((a0_2 / 256) % 256) [.int .u8 ((a0_2 / 256) % 256)] from rfl) (Reps.one (show Kd.M (Kd.int .u8) _ _ _ ((a0_2) % 256) [.int .u8 ((a0_2) % 256)] from rfl) (Reps.one (show Kd.M (Kd.int .u8) _ _ _ ((a0_3) % 256) [.int .u8 ((a0_3) % 256)] from rfl) (Reps.none _ _))))))))); intro v135 w6 ho7 hb hg_ hnew_; clear hg_ hnew_; (first | rw [← Ny134.out] at ho7 | (simp only [Int.reduceToNat] at ho7; rw [← Ny134.out] at ho7)); have HO136 := Aside0.mk (Kd.R_lower ho7 (below_size (Sq.w HB.out))); replace BK133 := Sq.sb BK133 hb; replace HB := Sq.sw HB hb; clear hb ho7; obtain ⟨Ao8, co8, eo8⟩ := Kd.R_slice HO136.out; subst eo8) | ((with_reducible refine gate_callee (f := 58) rfl ?_); refine goesL_ (some 31) rfl rfl Try.func58 (by kernel_rfl) rfl #[.slice Ao8 y134.length co8] rfl Sq.m ?_; (with_reducible refine (bus_Check.calls k _ _ y134 t137 _ ?side1 ?side2 A2.out).mono ?_); (case side1 => repeat (first | exact (Kd.R_reads' HO136.out).2.2 | (with_reducible refine Kd.C_alloc ?_ _) | (with_reducible refine Kd.C_drewN ?_ _) | (with_reducible refine Kd.C_drew ?_))); (case side2 => exact (Kd.R_reads' HO136.out).2.1); rintro e w' ⟨rfl, ⟨nd, rfl⟩⟩; refine ⟨_, rfl, ?_⟩) | ((with_reducible refine gate_builtin (b := .append) (xs := #[.tmp 29, .tmp 32]) rfl ?_); at_builtin; refine Kd.R_append (Kd.int .u8) (w0 := w) w.heap.size rfl (.tmp 29) (.tmp 32) 37 5 (.int .u8 0) 1 rfl Try.underlying37 info5 rfl (by decide) (by omega) (.slice Ao8 y134.length co8) y134 t137 [_] (fun _ => True) (fun _ => False) rfl rfl ?aP (fun _ hk => hk.elim) ?aF ?aO ?aB ?aS ?aL ?_; (case aP => first | exact rfl | (show [_] = [_]; congr 2; omega) | simp); (case aB => exact (Sq.w HB.out)); (case aF => exact (fun _ _ => trivial)); (case aO => exact (Sq.rR HO136.out)); (case aS => exact (below_size (Sq.w HB.out))); (case aL => have := LMc3.out; omega); intro v139 w9 ho hb hg hat; rw [← Ny138.out] at ho; have HO140 := Aside0.mk (ho); replace BK133 := Aside0.mk (blk_grown (g := gb133) (o := .cells #[.int .i64 a0_0, .int .i64 a0_1, .int .i64 a0_2, .int .i64 a0_3] 60 (0, 0)) (Sq.b BK133.out) hg (Kd.R_ne HO136.out BK133.out (by decide))); replace HB := Aside0.mk (hb); clear HO136; clear ho hb hg hat))
  go_ret
  exact ⟨_, by first | rfl | (simp [errW_none, errW_some] <;> rfl) | (simp [*, errW_none, errW_some] <;> rfl), by (with_reducible repeat (first | apply Kd.R_alloc | apply Kd.R_drewN | apply Kd.R_drew)); exact HO140.out, Sq.w HB.out⟩
 ·rw [if_neg c3] at H
  exact absurd H (by simp)

-- NOT PRINTED: function 48 (bus_device_burst)

-- NOT PRINTED: function 35 (api_Raw_Len)

-- NOT PRINTED: function 49 (bus_device_read)

-- NOT PRINTED: function 34 (bus_device_does)

-- NOT PRINTED: function 12 (bus_Bus_Do)
/-! ### gimballaw8_Heavy: function 7 -/
def gimballaw8_Heavy.l0 : Nat → List (S35) → Int → Int → Option (Bool)
 | 0, _, _, _ => none
 | k + 1, x0, x5, x6 => if x6 < (x0.length : Int) then (if x6 < 40 then (if 0 ≤ x6 then (gimballaw8_Heavy.l0 k x0 (wrap64 (x5 + (((rd_T35 x0 x6).f2).length : Int))) (wrap64 (x6 + 1))) else (none)) else (if x5 > 600 then (some true) else (some (decide ((x0.length : Int) > 40))))) else (if x5 > 600 then (some true) else (some (decide ((x0.length : Int) > 40))))
def gimballaw8_Heavy.f (k : Nat) (l0 : List (S35)) (l1 : List (S54)) : Option (Bool) := gimballaw8_Heavy.l0 k l0 (l1.length : Int) 0
theorem gimballaw8_Heavy.mono_l : ∀ k, (∀ y0 y1 y2, LeO (gimballaw8_Heavy.l0 k y0 y1 y2) (gimballaw8_Heavy.l0 (k + 1) y0 y1 y2))
 | 0 => fun _ _ _ r h => by simp [gimballaw8_Heavy.l0] at h
 | k + 1 => by
  have ih0 := gimballaw8_Heavy.mono_l k
  ·intro y0 y1 y2
   unfold gimballaw8_Heavy.l0
   repeat' first
   | (with_reducible exact ih0 _ _ _)
   | (with_reducible exact LeO.refl _)
   | (with_reducible exact LeO.none _)
   | (with_reducible refine LeO.ite ?_ ?_)
   | (with_reducible refine LeO.bind ?_ (fun _ => ?_))
   | exact ih0 _ _ _
   | exact LeO.none _
   | refine LeO.ite ?_ ?_
   | refine LeO.bind ?_ (fun _ => ?_)
theorem gimballaw8_Heavy.mono : ∀ a0 a1 k, LeO (gimballaw8_Heavy.f k a0 a1) (gimballaw8_Heavy.f (k + 1) a0 a1) := by
 intro a0 a1 k
 have ih0 := gimballaw8_Heavy.mono_l k
 unfold gimballaw8_Heavy.f
 repeat' first
   | (with_reducible exact ih0 _ _ _)
   | (with_reducible exact LeO.refl _)
   | (with_reducible exact LeO.none _)
   | (with_reducible refine LeO.ite ?_ ?_)
   | (with_reducible refine LeO.bind ?_ (fun _ => ?_))
   | exact ih0 _ _ _
   | exact LeO.none _
   | refine LeO.ite ?_ ?_
   | refine LeO.bind ?_ (fun _ => ?_)
set_option maxHeartbeats 8000000 in
set_option maxRecDepth 100000 in
theorem gimballaw8_Heavy.calls (k : Nat) (A0 : Option Addr) (c0 : Nat) (l0 : List (S35)) (A1 : Option Addr) (c1 : Nat) (l1 : List (S54)) (r : Bool) (w : World) (hr0 : Kd.C k35 w A0 l0.length l0) (hc0 : l0.length ≤ c0) (hr1 : Kd.C k54 w A1 l1.length l1) (hc1 : l1.length ≤ c1) (h : gimballaw8_Heavy.f k l0 l1 = some r) :
  Calls Try.prog 7 #[.slice A0 l0.length c0, .slice A1 l1.length c1] w fun e w' => e = .returned (.bool r) ∧ Drawn0 w w' := by
 have HR0 := Aside0.mk hr0
 have HC0 := Aside0.mk hc0
 clear hr0 hc0
 have HR1 := Aside0.mk hr1
 have HC1 := Aside0.mk hc1
 clear hr1 hc1
 have H : (gimballaw8_Heavy.l0 k l0 (l1.length : Int) 0) = some r := h
 clear h
 have H' := Aside0.mk H
 clear H
 go_enter Try.func7, Try.ntmps7
 go_wp2
 refine Cu.wp_loop (Cu.rep 5 Cu.f (Cu.rep 2 Cu.t (Cu.rep 2 Cu.f (Cu.rep 18 Cu.t (Cu.rep 7 Cu.f []))))) 20 (fun kq us_ w' => ∃ (x5_1 : Int) (x6_1 : Int), (Cu.nth us_ 0) = .int .i64 x5_1 ∧ (Cu.nth us_ 1) = .int .i64 x6_1 ∧ Aside0 (gimballaw8_Heavy.l0 kq l0 x5_1 x6_1 = some r) ∧ Aside0 (kq ≤ k) ∧ Drawn0 w w') k ?_ (by kernel_rfl) (by kernel_rfl) ?_
 · try dsimp only [Cu.pick, Cu.rep, Cu.nth]
   exact ⟨((l1.length : Int)), (0), Sq.e, Sq.e, H', ⟨Nat.le_refl _⟩, by repeat (first | exact Drawn0.refl _ | apply Drawn0.step)⟩
 ·
  intro gk wr u5 u6 u9 u10 u11 u12 u13 u14 u15 u16 u17 u18 u19 u20 u21 u22 u23 u24 u25 u26
  try dsimp only [Cu.over, Cu.rep, Cu.nth]
  intro hrel _ _ _ _
  clear H'; (try clear c1); (try clear p2)
  obtain ⟨x5_1, x6_1, rfl, rfl, HA, HK1, ⟨m1, rfl⟩⟩ := hrel
  cases gk with
  | zero => exact absurd HA.out (by simp [gimballaw8_Heavy.l0])
  | succ k1 =>
   have H := HA.out
   clear HA
   simp only [gimballaw8_Heavy.l0] at H
   by_cases c3 : x6_1 < (l0.length : Int)
   ·rw [if_pos c3] at H
    have c3b0 : decide (x6_1 < (l0.length : Int)) = true := decide_eq_true c3
    clear c3
    by_cases c4 : x6_1 < 40
    ·rw [if_pos c4] at H
     have c4b0 : decide (x6_1 < 40) = true := decide_eq_true c4
     clear c4
     by_cases c5 : 0 ≤ x6_1
     ·rw [if_pos c5] at H
      have c5b0 : decide (0 ≤ x6_1) = true := decide_eq_true c5
      clear c5
      have H' := Aside0.mk H
      clear H
      have p101 : 0 ≤ (x6_1 : Int) := of_decide_eq_true (by first | (with_reducible assumption) | assumption)
      have q101 : x6_1 < (l0.length : Int) := of_decide_eq_true (by first | (with_reducible assumption) | assumption)
      obtain ⟨ad101, A101_2, c101_2, e101, hx101_0, hx101_1, hx101_2, hl101_2, hi101_2⟩ := at_T35 HR0.out x6_1 p101 q101
      cases e101
      have HR101_2 := Aside0.mk hi101_2
      have HC101_2 := Aside0.mk hl101_2
      clear hi101_2 hl101_2
      replace p101 := eq_true p101
      replace q101 := eq_true q101
      go_wp2
      refine Cu.handed k1 (by have := HK1.out; omega) (by assumption) ?_ (by kernel_rfl) (by kernel_rfl)
      try dsimp only [Cu.pick, Cu.rep, Cu.nth]
      exact ⟨(wrap64 (x5_1 + (((rd_T35 l0 x6_1).f2).length : Int))), (wrap64 (x6_1 + 1)), Sq.e, Sq.e, H', ⟨by have := HK1.out; omega⟩, by repeat (first | exact Drawn0.refl _ | apply Drawn0.step)⟩
     ·rw [if_neg c5] at H
      exact absurd H (by simp)
    ·rw [if_neg c4] at H
     have c4b0 : decide (x6_1 < 40) = false := decide_eq_false c4
     clear c4
     by_cases c6 : x5_1 > 600
     ·rw [if_pos c6] at H
      have c6b0 : decide (600 < x5_1) = true := decide_eq_true c6
      clear c6
      obtain rfl := Option.some.inj H
      go_wp2
      go_ret
      exact ⟨by first | rfl | (simp; done) | (simp [*]; done), by repeat (first | exact Drawn0.refl _ | apply Drawn0.step)⟩
     ·rw [if_neg c6] at H
      have c6b0 : decide (600 < x5_1) = false := decide_eq_false c6
      clear c6
      obtain rfl := Option.some.inj H
      go_wp2
      go_ret
      exact ⟨by first | rfl | (simp; done) | (simp [*]; done), by repeat (first | exact Drawn0.refl _ | apply Drawn0.step)⟩
   ·rw [if_neg c3] at H
    have c3b0 : decide (x6_1 < (l0.length : Int)) = false := decide_eq_false c3
    clear c3
    by_cases c7 : x5_1 > 600
    ·rw [if_pos c7] at H
     have c7b0 : decide (600 < x5_1) = true := decide_eq_true c7
     clear c7
     obtain rfl := Option.some.inj H
     go_wp2
     go_ret
     exact ⟨by first | rfl | (simp; done) | (simp [*]; done), by repeat (first | exact Drawn0.refl _ | apply Drawn0.step)⟩
    ·rw [if_neg c7] at H
     have c7b0 : decide (600 < x5_1) = false := decide_eq_false c7
     clear c7
     obtain rfl := Option.some.inj H
     go_wp2
     go_ret
     exact ⟨by first | rfl | (simp; done) | (simp [*]; done), by repeat (first | exact Drawn0.refl _ | apply Drawn0.step)⟩

/-! ### gimbalref8_in: function 28 -/
def gimbalref8_in.f (a0 : Int) (a1 : Int) (a2 : Int) : Option (Bool) := if a0 ≥ a1 then (some (decide (a0 ≤ a2))) else (some false)
set_option maxHeartbeats 8000000 in
set_option maxRecDepth 100000 in
theorem gimbalref8_in.calls (a0 : Int) (a1 : Int) (a2 : Int) (r : Bool) (w : World) (h : gimbalref8_in.f a0 a1 a2 = some r) :
  Calls Try.prog 28 #[.int .i64 a0, .int .i64 a1, .int .i64 a2] w fun e w' => e = .returned (.bool r) ∧ Drawn0 w w' := by
 have H : (if a0 ≥ a1 then (some (decide (a0 ≤ a2))) else (some false)) = some r := h
 clear h
 by_cases c4 : a0 ≥ a1
 ·rw [if_pos c4] at H
  have c4b0 : decide (a1 ≤ a0) = true := decide_eq_true c4
  clear c4
  obtain rfl := Option.some.inj H
  go_enter Try.func28, Try.ntmps28
  go_wp2
  go_ret
  exact ⟨by first | rfl | (simp; done) | (simp [*]; done), by repeat (first | exact Drawn0.refl _ | apply Drawn0.step)⟩
 ·rw [if_neg c4] at H
  have c4b0 : decide (a1 ≤ a0) = false := decide_eq_false c4
  clear c4
  obtain rfl := Option.some.inj H
  go_enter Try.func28, Try.ntmps28
  go_wp2
  go_ret
  exact ⟨by first | rfl | (simp; done) | (simp [*]; done), by repeat (first | exact Drawn0.refl _ | apply Drawn0.step)⟩

/-! ### gimbalref8_MayRaw: function 29 -/
def gimbalref8_MayRaw.f (a0_0 : Int) (a0_1 : Int) (a0_2 : Int) (a0_3 : Int) : Option (Bool) := (gimbalref8_in.f a0_0 (-32768) 32767).bind fun t103 => (if t103 = true then ((gimbalref8_in.f a0_1 (-32768) 32767).bind fun t104 => (if t104 = true then ((gimbalref8_in.f a0_2 (-32768) 32767).bind fun t105 => (if t105 = true then ((gimbalref8_in.f a0_3 (-128) 127).bind fun t106 => (some t106)) else (some false))) else (some false))) else (some false))
set_option maxHeartbeats 8000000 in
set_option maxRecDepth 100000 in
theorem gimbalref8_MayRaw.calls (a0_0 : Int) (a0_1 : Int) (a0_2 : Int) (a0_3 : Int) (r : Bool) (w : World) (h : gimbalref8_MayRaw.f a0_0 a0_1 a0_2 a0_3 = some r) :
  Calls Try.prog 29 #[.agg #[.int .i64 a0_0, .int .i64 a0_1, .int .i64 a0_2, .int .i64 a0_3]] w fun e w' => e = .returned (.bool r) ∧ Below w.heap.size w w' := by
 have hu60 := Try.underlying60
 have HB := Aside0.mk (Below.refl w.heap.size w)
 have H : ((gimbalref8_in.f a0_0 (-32768) 32767).bind fun t103 => (if t103 = true then ((gimbalref8_in.f a0_1 (-32768) 32767).bind fun t104 => (if t104 = true then ((gimbalref8_in.f a0_2 (-32768) 32767).bind fun t105 => (if t105 = true then ((gimbalref8_in.f a0_3 (-128) 127).bind fun t106 => (some t106)) else (some false))) else (some false))) else (some false))) = some r := h
 clear h
 replace H := Option.bind_eq_some_iff.mp H
 obtain ⟨t103, A20, H⟩ := H
 replace H : (if t103 = true then ((gimbalref8_in.f a0_1 (-32768) 32767).bind fun t104 => (if t104 = true then ((gimbalref8_in.f a0_2 (-32768) 32767).bind fun t105 => (if t105 = true then ((gimbalref8_in.f a0_3 (-128) 127).bind fun t106 => (some t106)) else (some false))) else (some false))) else (some false)) = some r := H
 have A2 := Aside0.mk A20
 clear A20
 by_cases c3 : t103 = true
 ·subst c3
  have H1 : ((gimbalref8_in.f a0_1 (-32768) 32767).bind fun t104 => (if t104 = true then ((gimbalref8_in.f a0_2 (-32768) 32767).bind fun t105 => (if t105 = true then ((gimbalref8_in.f a0_3 (-128) 127).bind fun t106 => (some t106)) else (some false))) else (some false))) = some r := by rw [if_pos rfl] at H; exact H
  clear H
  have H := H1
  clear H1
  replace H := Option.bind_eq_some_iff.mp H
  obtain ⟨t104, A40, H⟩ := H
  replace H : (if t104 = true then ((gimbalref8_in.f a0_2 (-32768) 32767).bind fun t105 => (if t105 = true then ((gimbalref8_in.f a0_3 (-128) 127).bind fun t106 => (some t106)) else (some false))) else (some false)) = some r := H
  have A4 := Aside0.mk A40
  clear A40
  by_cases c5 : t104 = true
  ·subst c5
   have H1 : ((gimbalref8_in.f a0_2 (-32768) 32767).bind fun t105 => (if t105 = true then ((gimbalref8_in.f a0_3 (-128) 127).bind fun t106 => (some t106)) else (some false))) = some r := by rw [if_pos rfl] at H; exact H
   clear H
   have H := H1
   clear H1
   replace H := Option.bind_eq_some_iff.mp H
   obtain ⟨t105, A60, H⟩ := H
   replace H : (if t105 = true then ((gimbalref8_in.f a0_3 (-128) 127).bind fun t106 => (some t106)) else (some false)) = some r := H
   have A6 := Aside0.mk A60
   clear A60
   by_cases c7 : t105 = true
   ·subst c7
    have H1 : ((gimbalref8_in.f a0_3 (-128) 127).bind fun t106 => (some t106)) = some r := by rw [if_pos rfl] at H; exact H
    clear H
    have H := H1
    clear H1
    replace H := Option.bind_eq_some_iff.mp H
    obtain ⟨t106, A80, H⟩ := H
    replace H : (some t106) = some r := H
    have A8 := Aside0.mk A80
    clear A80
    obtain rfl := Option.some.inj H
    go_enter Try.func29, Try.ntmps29
    go_wp2_with (first | ((with_reducible refine gate_dst (N := 1) rfl ?_); refine box_event ?hg (N := 1) ?hd (cs := #[.int .i64 a0_0, .int .i64 a0_1, .int .i64 a0_2, .int .i64 a0_3]) (t := 60) ?hr ?_; (case hd => rfl); (case hg => rfl); (case hr => first | (go_simp; done) | (go_simp; rfl)); intro gb102 hg w9 hbox hb; have BK102 := Aside0.mk hbox; have GW102 := Sq.ge hg HB; have GE102 := Sq.ge hg HB; replace HB := Sq.sw HB hb; clear hb hbox hg; obtain ⟨z10_0, z10_1, z10_2, z10_3⟩ := Sq.c4 BK102.out; obtain ⟨y10_0, y10_1, y10_2, y10_3⟩ := Sq.f4 BK102.out) | ((with_reducible refine gate_callee (f := 28) rfl ?_); refine goesL_ (some 5) rfl rfl Try.func28 (by kernel_rfl) rfl #[.int .i64 a0_0, .int .i64 (-32768), .int .i64 32767] rfl Sq.m ?_; (with_reducible refine (gimbalref8_in.calls a0_0 (-32768) 32767 true _ A2.out).mono ?_); rintro e w' ⟨rfl, ⟨nd, rfl⟩⟩; refine ⟨_, rfl, ?_⟩) | (go_at_call 28; (with_reducible refine (gimbalref8_in.calls a0_1 (-32768) 32767 true _ A4.out).mono ?_); rintro e w' ⟨rfl, ⟨nd, rfl⟩⟩) | (go_at_call 28; (with_reducible refine (gimbalref8_in.calls a0_2 (-32768) 32767 true _ A6.out).mono ?_); rintro e w' ⟨rfl, ⟨nd, rfl⟩⟩) | (go_at_call 28; (with_reducible refine (gimbalref8_in.calls a0_3 (-128) 127 t106 _ A8.out).mono ?_); rintro e w' ⟨rfl, ⟨nd, rfl⟩⟩))
    go_ret
    exact ⟨by first | rfl | (simp [errW_none, errW_some] <;> rfl) | (simp [*, errW_none, errW_some] <;> rfl), Sq.w HB.out⟩
   ·replace c7 := Bool.eq_false_iff.mpr c7
    subst c7
    have H1 : (some false) = some r := by rw [if_neg (show ¬ (false = true) by decide)] at H; exact H
    clear H
    have H := H1
    clear H1
    obtain rfl := Option.some.inj H
    go_enter Try.func29, Try.ntmps29
    go_wp2_with (first | ((with_reducible refine gate_dst (N := 1) rfl ?_); refine box_event ?hg (N := 1) ?hd (cs := #[.int .i64 a0_0, .int .i64 a0_1, .int .i64 a0_2, .int .i64 a0_3]) (t := 60) ?hr ?_; (case hd => rfl); (case hg => rfl); (case hr => first | (go_simp; done) | (go_simp; rfl)); intro gb102 hg w11 hbox hb; have BK102 := Aside0.mk hbox; have GW102 := Sq.ge hg HB; have GE102 := Sq.ge hg HB; replace HB := Sq.sw HB hb; clear hb hbox hg; obtain ⟨z12_0, z12_1, z12_2, z12_3⟩ := Sq.c4 BK102.out; obtain ⟨y12_0, y12_1, y12_2, y12_3⟩ := Sq.f4 BK102.out) | ((with_reducible refine gate_callee (f := 28) rfl ?_); refine goesL_ (some 5) rfl rfl Try.func28 (by kernel_rfl) rfl #[.int .i64 a0_0, .int .i64 (-32768), .int .i64 32767] rfl Sq.m ?_; (with_reducible refine (gimbalref8_in.calls a0_0 (-32768) 32767 true _ A2.out).mono ?_); rintro e w' ⟨rfl, ⟨nd, rfl⟩⟩; refine ⟨_, rfl, ?_⟩) | (go_at_call 28; (with_reducible refine (gimbalref8_in.calls a0_1 (-32768) 32767 true _ A4.out).mono ?_); rintro e w' ⟨rfl, ⟨nd, rfl⟩⟩) | (go_at_call 28; (with_reducible refine (gimbalref8_in.calls a0_2 (-32768) 32767 false _ A6.out).mono ?_); rintro e w' ⟨rfl, ⟨nd, rfl⟩⟩))
    go_ret
    exact ⟨by first | rfl | (simp [errW_none, errW_some] <;> rfl) | (simp [*, errW_none, errW_some] <;> rfl), Sq.w HB.out⟩
  ·replace c5 := Bool.eq_false_iff.mpr c5
   subst c5
   have H1 : (some false) = some r := by rw [if_neg (show ¬ (false = true) by decide)] at H; exact H
   clear H
   have H := H1
   clear H1
   obtain rfl := Option.some.inj H
   go_enter Try.func29, Try.ntmps29
   go_wp2_with (first | ((with_reducible refine gate_dst (N := 1) rfl ?_); refine box_event ?hg (N := 1) ?hd (cs := #[.int .i64 a0_0, .int .i64 a0_1, .int .i64 a0_2, .int .i64 a0_3]) (t := 60) ?hr ?_; (case hd => rfl); (case hg => rfl); (case hr => first | (go_simp; done) | (go_simp; rfl)); intro gb102 hg w13 hbox hb; have BK102 := Aside0.mk hbox; have GW102 := Sq.ge hg HB; have GE102 := Sq.ge hg HB; replace HB := Sq.sw HB hb; clear hb hbox hg; obtain ⟨z14_0, z14_1, z14_2, z14_3⟩ := Sq.c4 BK102.out; obtain ⟨y14_0, y14_1, y14_2, y14_3⟩ := Sq.f4 BK102.out) | ((with_reducible refine gate_callee (f := 28) rfl ?_); refine goesL_ (some 5) rfl rfl Try.func28 (by kernel_rfl) rfl #[.int .i64 a0_0, .int .i64 (-32768), .int .i64 32767] rfl Sq.m ?_; (with_reducible refine (gimbalref8_in.calls a0_0 (-32768) 32767 true _ A2.out).mono ?_); rintro e w' ⟨rfl, ⟨nd, rfl⟩⟩; refine ⟨_, rfl, ?_⟩) | (go_at_call 28; (with_reducible refine (gimbalref8_in.calls a0_1 (-32768) 32767 false _ A4.out).mono ?_); rintro e w' ⟨rfl, ⟨nd, rfl⟩⟩))
   go_ret
   exact ⟨by first | rfl | (simp [errW_none, errW_some] <;> rfl) | (simp [*, errW_none, errW_some] <;> rfl), Sq.w HB.out⟩
 ·replace c3 := Bool.eq_false_iff.mpr c3
  subst c3
  have H1 : (some false) = some r := by rw [if_neg (show ¬ (false = true) by decide)] at H; exact H
  clear H
  have H := H1
  clear H1
  obtain rfl := Option.some.inj H
  go_enter Try.func29, Try.ntmps29
  go_wp2_with (first | ((with_reducible refine gate_dst (N := 1) rfl ?_); refine box_event ?hg (N := 1) ?hd (cs := #[.int .i64 a0_0, .int .i64 a0_1, .int .i64 a0_2, .int .i64 a0_3]) (t := 60) ?hr ?_; (case hd => rfl); (case hg => rfl); (case hr => first | (go_simp; done) | (go_simp; rfl)); intro gb102 hg w15 hbox hb; have BK102 := Aside0.mk hbox; have GW102 := Sq.ge hg HB; have GE102 := Sq.ge hg HB; replace HB := Sq.sw HB hb; clear hb hbox hg; obtain ⟨z16_0, z16_1, z16_2, z16_3⟩ := Sq.c4 BK102.out; obtain ⟨y16_0, y16_1, y16_2, y16_3⟩ := Sq.f4 BK102.out) | ((with_reducible refine gate_callee (f := 28) rfl ?_); refine goesL_ (some 5) rfl rfl Try.func28 (by kernel_rfl) rfl #[.int .i64 a0_0, .int .i64 (-32768), .int .i64 32767] rfl Sq.m ?_; (with_reducible refine (gimbalref8_in.calls a0_0 (-32768) 32767 false _ A2.out).mono ?_); rintro e w' ⟨rfl, ⟨nd, rfl⟩⟩; refine ⟨_, rfl, ?_⟩))
  go_ret
  exact ⟨by first | rfl | (simp [errW_none, errW_some] <;> rfl) | (simp [*, errW_none, errW_some] <;> rfl), Sq.w HB.out⟩
/-! ### gimbalref8_May: function 8 -/
mutual
def gimbalref8_May.j0 : Nat → List (S35) → List (S54) → Bool → Option (Bool)
 | 0, _, _, _ => none
 | k + 1, x0, x1, x16 => if x16 = true then (some false) else (gimbalref8_May.l0 k x0 x1 0)
def gimbalref8_May.l0 : Nat → List (S35) → List (S54) → Int → Option (Bool)
 | 0, _, _, _ => none
 | k + 1, x0, x1, x5 => if x5 < (x0.length : Int) then (if 0 ≤ x5 then ((gimbalref8_in.f ((rd_T35 x0 x5).f0) 0 127).bind fun t108 => (if t108 = true then ((gimbalref8_in.f ((rd_T35 x0 x5).f1) 0 255).bind fun t110 => (if t110 = true then (gimbalref8_May.j2 k x0 x1 x5 (decide ((((rd_T35 x0 x5).f2).length : Int) > 4096))) else (gimbalref8_May.j2 k x0 x1 x5 true))) else (gimbalref8_May.j2 k x0 x1 x5 true))) else (none)) else (gimbalref8_May.l3 k x1 0)
def gimbalref8_May.j2 : Nat → List (S35) → List (S54) → Int → Bool → Option (Bool)
 | 0, _, _, _, _ => none
 | k + 1, x0, x1, x5, x47 => if x47 = true then (some false) else (gimbalref8_May.l1 k x0 x1 x5 0)
def gimbalref8_May.l1 : Nat → List (S35) → List (S54) → Int → Int → Option (Bool)
 | 0, _, _, _, _ => none
 | k + 1, x0, x1, x5, x6 => if 0 ≤ x5 then (if x5 < (x0.length : Int) then (if x6 < (((rd_T35 x0 x5).f2).length : Int) then (if 0 ≤ x6 then ((gimbalref8_MayRaw.f ((rd_T60 ((rd_T35 x0 x5).f2) x6).f0) ((rd_T60 ((rd_T35 x0 x5).f2) x6).f1) ((rd_T60 ((rd_T35 x0 x5).f2) x6).f2) ((rd_T60 ((rd_T35 x0 x5).f2) x6).f3)).bind fun t115 => (if t115 = true then (gimbalref8_May.l1 k x0 x1 x5 (wrap64 (x6 + 1))) else (some false))) else (none)) else (gimbalref8_May.l2 k x0 x1 x5 0)) else (none)) else (none)
def gimbalref8_May.l2 : Nat → List (S35) → List (S54) → Int → Int → Option (Bool)
 | 0, _, _, _, _ => none
 | k + 1, x0, x1, x5, x7 => if x7 < x5 then (if 0 ≤ x7 then (if x7 < (x0.length : Int) then (if 0 ≤ x5 then (if x5 < (x0.length : Int) then (if ((rd_T35 x0 x7).f0) = ((rd_T35 x0 x5).f0) then (some false) else (gimbalref8_May.l2 k x0 x1 x5 (wrap64 (x7 + 1)))) else (none)) else (none)) else (none)) else (none)) else (gimbalref8_May.l0 k x0 x1 (wrap64 (x5 + 1)))
def gimbalref8_May.l3 : Nat → List (S54) → Int → Option (Bool)
 | 0, _, _ => none
 | k + 1, x1, x8 => if x8 < (x1.length : Int) then (if 0 ≤ x8 then (if ((rd_T54 x1 x8).f0) < 1 then (some false) else ((gimbalref8_in.f ((rd_T54 x1 x8).f1) 1 3).bind fun t120 => (if t120 = true then (if ((rd_T54 x1 x8).f2) < 0 then (some false) else (gimbalref8_May.l3 k x1 (wrap64 (x8 + 1)))) else (some false)))) else (none)) else (some true)
end
def gimbalref8_May.f (k : Nat) (l0 : List (S35)) (l1 : List (S54)) : Option (Bool) := if (l0.length : Int) > 8 then (gimbalref8_May.j0 k l0 l1 true) else (gimbalref8_May.j0 k l0 l1 (decide ((l1.length : Int) > 4096)))
theorem gimbalref8_May.mono_l : ∀ k, (∀ y0 y1 y2, LeO (gimbalref8_May.j0 k y0 y1 y2) (gimbalref8_May.j0 (k + 1) y0 y1 y2)) ∧ (∀ y0 y1 y2, LeO (gimbalref8_May.l0 k y0 y1 y2) (gimbalref8_May.l0 (k + 1) y0 y1 y2)) ∧ (∀ y0 y1 y2 y3, LeO (gimbalref8_May.j2 k y0 y1 y2 y3) (gimbalref8_May.j2 (k + 1) y0 y1 y2 y3)) ∧ (∀ y0 y1 y2 y3, LeO (gimbalref8_May.l1 k y0 y1 y2 y3) (gimbalref8_May.l1 (k + 1) y0 y1 y2 y3)) ∧ (∀ y0 y1 y2 y3, LeO (gimbalref8_May.l2 k y0 y1 y2 y3) (gimbalref8_May.l2 (k + 1) y0 y1 y2 y3)) ∧ (∀ y0 y1, LeO (gimbalref8_May.l3 k y0 y1) (gimbalref8_May.l3 (k + 1) y0 y1))
 | 0 => ⟨fun _ _ _ r h => by simp [gimbalref8_May.j0] at h, fun _ _ _ r h => by simp [gimbalref8_May.l0] at h, fun _ _ _ _ r h => by simp [gimbalref8_May.j2] at h, fun _ _ _ _ r h => by simp [gimbalref8_May.l1] at h, fun _ _ _ _ r h => by simp [gimbalref8_May.l2] at h, fun _ _ r h => by simp [gimbalref8_May.l3] at h⟩
 | k + 1 => by
  obtain ⟨ih0, ih1, ih2, ih3, ih4, ih5⟩ := gimbalref8_May.mono_l k
  refine ⟨?_, ?_, ?_, ?_, ?_, ?_⟩
  ·intro y0 y1 y2
   unfold gimbalref8_May.j0
   repeat' first
   | (with_reducible exact ih0 _ _ _)
   | (with_reducible exact ih1 _ _ _)
   | (with_reducible exact ih2 _ _ _ _)
   | (with_reducible exact ih3 _ _ _ _)
   | (with_reducible exact ih4 _ _ _ _)
   | (with_reducible exact ih5 _ _)
   | (with_reducible exact LeO.refl _)
   | (with_reducible exact LeO.none _)
   | (with_reducible refine LeO.ite ?_ ?_)
   | (with_reducible refine LeO.bind ?_ (fun _ => ?_))
   | exact ih0 _ _ _
   | exact ih1 _ _ _
   | exact ih2 _ _ _ _
   | exact ih3 _ _ _ _
   | exact ih4 _ _ _ _
   | exact ih5 _ _
   | exact LeO.none _
   | refine LeO.ite ?_ ?_
   | refine LeO.bind ?_ (fun _ => ?_)
  ·intro y0 y1 y2
   unfold gimbalref8_May.l0
   repeat' first
   | (with_reducible exact ih0 _ _ _)
   | (with_reducible exact ih1 _ _ _)
   | (with_reducible exact ih2 _ _ _ _)
   | (with_reducible exact ih3 _ _ _ _)
   | (with_reducible exact ih4 _ _ _ _)
   | (with_reducible exact ih5 _ _)
   | (with_reducible exact LeO.refl _)
   | (with_reducible exact LeO.none _)
   | (with_reducible refine LeO.ite ?_ ?_)
   | (with_reducible refine LeO.bind ?_ (fun _ => ?_))
   | exact ih0 _ _ _
   | exact ih1 _ _ _
   | exact ih2 _ _ _ _
   | exact ih3 _ _ _ _
   | exact ih4 _ _ _ _
   | exact ih5 _ _
   | exact LeO.none _
   | refine LeO.ite ?_ ?_
   | refine LeO.bind ?_ (fun _ => ?_)
  ·intro y0 y1 y2 y3
   unfold gimbalref8_May.j2
   repeat' first
   | (with_reducible exact ih0 _ _ _)
   | (with_reducible exact ih1 _ _ _)
   | (with_reducible exact ih2 _ _ _ _)
   | (with_reducible exact ih3 _ _ _ _)
   | (with_reducible exact ih4 _ _ _ _)
   | (with_reducible exact ih5 _ _)
   | (with_reducible exact LeO.refl _)
   | (with_reducible exact LeO.none _)
   | (with_reducible refine LeO.ite ?_ ?_)
   | (with_reducible refine LeO.bind ?_ (fun _ => ?_))
   | exact ih0 _ _ _
   | exact ih1 _ _ _
   | exact ih2 _ _ _ _
   | exact ih3 _ _ _ _
   | exact ih4 _ _ _ _
   | exact ih5 _ _
   | exact LeO.none _
   | refine LeO.ite ?_ ?_
   | refine LeO.bind ?_ (fun _ => ?_)
  ·intro y0 y1 y2 y3
   unfold gimbalref8_May.l1
   repeat' first
   | (with_reducible exact ih0 _ _ _)
   | (with_reducible exact ih1 _ _ _)
   | (with_reducible exact ih2 _ _ _ _)
   | (with_reducible exact ih3 _ _ _ _)
   | (with_reducible exact ih4 _ _ _ _)
   | (with_reducible exact ih5 _ _)
   | (with_reducible exact LeO.refl _)
   | (with_reducible exact LeO.none _)
   | (with_reducible refine LeO.ite ?_ ?_)
   | (with_reducible refine LeO.bind ?_ (fun _ => ?_))
   | exact ih0 _ _ _
   | exact ih1 _ _ _
   | exact ih2 _ _ _ _
   | exact ih3 _ _ _ _
   | exact ih4 _ _ _ _
   | exact ih5 _ _
   | exact LeO.none _
   | refine LeO.ite ?_ ?_
   | refine LeO.bind ?_ (fun _ => ?_)
  ·intro y0 y1 y2 y3
   unfold gimbalref8_May.l2
   repeat' first
   | (with_reducible exact ih0 _ _ _)
   | (with_reducible exact ih1 _ _ _)
   | (with_reducible exact ih2 _ _ _ _)
   | (with_reducible exact ih3 _ _ _ _)
   | (with_reducible exact ih4 _ _ _ _)
   | (with_reducible exact ih5 _ _)
   | (with_reducible exact LeO.refl _)
   | (with_reducible exact LeO.none _)
   | (with_reducible refine LeO.ite ?_ ?_)
   | (with_reducible refine LeO.bind ?_ (fun _ => ?_))
   | exact ih0 _ _ _
   | exact ih1 _ _ _
   | exact ih2 _ _ _ _
   | exact ih3 _ _ _ _
   | exact ih4 _ _ _ _
   | exact ih5 _ _
   | exact LeO.none _
   | refine LeO.ite ?_ ?_
   | refine LeO.bind ?_ (fun _ => ?_)
  ·intro y0 y1
   unfold gimbalref8_May.l3
   repeat' first
   | (with_reducible exact ih0 _ _ _)
   | (with_reducible exact ih1 _ _ _)
   | (with_reducible exact ih2 _ _ _ _)
   | (with_reducible exact ih3 _ _ _ _)
   | (with_reducible exact ih4 _ _ _ _)
   | (with_reducible exact ih5 _ _)
   | (with_reducible exact LeO.refl _)
   | (with_reducible exact LeO.none _)
   | (with_reducible refine LeO.ite ?_ ?_)
   | (with_reducible refine LeO.bind ?_ (fun _ => ?_))
   | exact ih0 _ _ _
   | exact ih1 _ _ _
   | exact ih2 _ _ _ _
   | exact ih3 _ _ _ _
   | exact ih4 _ _ _ _
   | exact ih5 _ _
   | exact LeO.none _
   | refine LeO.ite ?_ ?_
   | refine LeO.bind ?_ (fun _ => ?_)
theorem gimbalref8_May.mono : ∀ a0 a1 k, LeO (gimbalref8_May.f k a0 a1) (gimbalref8_May.f (k + 1) a0 a1) := by
 intro a0 a1 k
 obtain ⟨ih0, ih1, ih2, ih3, ih4, ih5⟩ := gimbalref8_May.mono_l k
 unfold gimbalref8_May.f
 repeat' first
   | (with_reducible exact ih0 _ _ _)
   | (with_reducible exact ih1 _ _ _)
   | (with_reducible exact ih2 _ _ _ _)
   | (with_reducible exact ih3 _ _ _ _)
   | (with_reducible exact ih4 _ _ _ _)
   | (with_reducible exact ih5 _ _)
   | (with_reducible exact LeO.refl _)
   | (with_reducible exact LeO.none _)
   | (with_reducible refine LeO.ite ?_ ?_)
   | (with_reducible refine LeO.bind ?_ (fun _ => ?_))
   | exact ih0 _ _ _
   | exact ih1 _ _ _
   | exact ih2 _ _ _ _
   | exact ih3 _ _ _ _
   | exact ih4 _ _ _ _
   | exact ih5 _ _
   | exact LeO.none _
   | refine LeO.ite ?_ ?_
   | refine LeO.bind ?_ (fun _ => ?_)
set_option maxHeartbeats 8000000 in
set_option maxRecDepth 100000 in
theorem gimbalref8_May.calls (k : Nat) (A0 : Option Addr) (c0 : Nat) (l0 : List (S35)) (A1 : Option Addr) (c1 : Nat) (l1 : List (S54)) (r : Bool) (w : World) (hr0 : Kd.C k35 w A0 l0.length l0) (hc0 : l0.length ≤ c0) (hr1 : Kd.C k54 w A1 l1.length l1) (hc1 : l1.length ≤ c1) (h : gimbalref8_May.f k l0 l1 = some r) :
  Calls Try.prog 8 #[.slice A0 l0.length c0, .slice A1 l1.length c1] w fun e w' => e = .returned (.bool r) ∧ Below w.heap.size w w' := by
 have hu60 := Try.underlying60
 have HR0 := Aside0.mk hr0
 have HC0 := Aside0.mk hc0
 clear hr0 hc0
 have HR1 := Aside0.mk hr1
 have HC1 := Aside0.mk hc1
 clear hr1 hc1
 have HB := Aside0.mk (Below.refl w.heap.size w)
 have H : (if (l0.length : Int) > 8 then (gimbalref8_May.j0 k l0 l1 true) else (gimbalref8_May.j0 k l0 l1 (decide ((l1.length : Int) > 4096)))) = some r := h
 clear h
 have HC3 := Aside0.mk H
 clear H
 go_enter Try.func8, Try.ntmps8
 go_upto_region 1 with (fail)
 repeat (go_quiet (fail); go_upto_region 1 with (fail))
 refine Cu.wp_cut (Cu.rep 9 Cu.f (Cu.rep 104 Cu.t [])) 104 (fun us_ wc => ∃ (kq : Nat) (x16_2 : Bool), (Cu.nth us_ 7) = .bool x16_2 ∧ Aside0 (gimbalref8_May.j0 kq l0 l1 x16_2 = some r) ∧ Aside0 (kq ≤ k) ∧ Aside0 (Below w.heap.size w wc)) ?_ ?_
 ·
  intro _ _ _ _
  have H := HC3.out
  clear HC3
  by_cases c4 : (l0.length : Int) > 8
  ·rw [if_pos c4] at H
   have c4b0 : decide (8 < (l0.length : Int)) = true := decide_eq_true c4
   have c4b1 : decide (8 < l0.length) = true := decide_eq_true (by omega)
   clear c4
   (first | rw [c4b0] | (simp only [i64_w, i32_w]; rw [c4b0]) | skip)
   have H' := Aside0.mk H
   clear H
   go_wp2
   repeat (go_quiet (fail); try go_wp2)
   refine Cu.meet (by assumption) ?_ (by kernel_rfl) (by kernel_rfl)
   try dsimp only [Cu.pick, Cu.rep, Cu.nth]
   exact ⟨_, (true), Sq.e, H', ⟨by first | omega | exact Nat.le_refl _⟩, ⟨Sq.w HB.out⟩⟩
  ·rw [if_neg c4] at H
   have c4b0 : decide (8 < (l0.length : Int)) = false := decide_eq_false c4
   have c4b1 : decide (8 < l0.length) = false := decide_eq_false (by omega)
   clear c4
   (first | rw [c4b0] | (simp only [i64_w, i32_w]; rw [c4b0]) | skip)
   have H' := Aside0.mk H
   clear H
   go_wp2
   repeat (go_quiet (fail); try go_wp2)
   refine Cu.meet (by assumption) ?_ (by kernel_rfl) (by kernel_rfl)
   try dsimp only [Cu.pick, Cu.rep, Cu.nth]
   exact ⟨_, (decide ((l1.length : Int) > 4096)), Sq.e, H', ⟨by first | omega | exact Nat.le_refl _⟩, ⟨Sq.w HB.out⟩⟩
 ·
  intro wc u9 u10 u11 u12 u13 u14 u15 u16 u17 u18 u19 u20 u21 u22 u23 u24 u25 u26 u27 u28 u29 u30 u31 u32 u33 u34 u35 u36 u37 u38 u39 u40 u41 u42 u43 u44 u45 u46 u47 u48 u49 u50 u51 u52 u53 u54 u55 u56 u57 u58 u59 u60 u61 u62 u63 u64 u65 u66 u67 u68 u69 u70 u71 u72 u73 u74 u75 u76 u77 u78 u79 u80 u81 u82 u83 u84 u85 u86 u87 u88 u89 u90 u91 u92 u93 u94 u95 u96 u97 u98 u99 u100 u101 u102 u103 u104 u105 u106 u107 u108 u109 u110 u111 u112
  try dsimp only [Cu.over, Cu.rep, Cu.nth]
  intro hcut
  clear HC3
  obtain ⟨kq, x16_2, rfl, HA, HJ2, HB⟩ := hcut
  cases kq with
  | zero => exact absurd HA.out (by simp [gimbalref8_May.j0])
  | succ kj2 =>
   have H := HA.out
   clear HA
   simp only [gimbalref8_May.j0] at H
   by_cases c5 : x16_2 = true
   ·subst c5
    have H1 : (some false) = some r := by rw [if_pos rfl] at H; exact H
    clear H
    have H := H1
    clear H1
    obtain rfl := Option.some.inj H
    go_wp2
    repeat (go_quiet (fail); try go_wp2)
    go_ret
    exact ⟨by first | rfl | (simp [errW_none, errW_some] <;> rfl) | (simp [*, errW_none, errW_some] <;> rfl), Sq.w HB.out⟩
   ·replace c5 := Bool.eq_false_iff.mpr c5
    subst c5
    have H1 : (gimbalref8_May.l0 kj2 l0 l1 0) = some r := by rw [if_neg (show ¬ (false = true) by decide)] at H; exact H
    clear H
    have H := H1
    clear H1
    have H' := Aside0.mk H
    clear H
    go_wp2
    repeat (go_quiet (fail); try go_wp2)
    refine Cu.wp_loop (Cu.rep 4 Cu.f (Cu.rep 4 Cu.t (Cu.rep 9 Cu.f (Cu.rep 67 Cu.t (Cu.rep 29 Cu.f []))))) 71 (fun kq us_ w' => ∃ (x5_2 : Int), (Cu.nth us_ 1) = .int .i64 x5_2 ∧ Aside0 (gimbalref8_May.l0 kq l0 l1 x5_2 = some r) ∧ Aside0 (kq ≤ kj2) ∧ Aside0 (Below w.heap.size w w')) kj2 ?_ (by kernel_rfl) (by kernel_rfl) ?_
    · try dsimp only [Cu.pick, Cu.rep, Cu.nth]
      exact ⟨(0), Sq.e, H', ⟨Nat.le_refl _⟩, ⟨Sq.w HB.out⟩⟩
    ·
     intro gk wr u4 u5 u6 u7 u17 u18 u19 u20 u21 u22 u23 u24 u25 u26 u27 u28 u29 u30 u31 u32 u33 u34 u35 u36 u37 u38 u39 u40 u41 u42 u43 u44 u45 u46 u47 u48 u49 u50 u51 u52 u53 u54 u55 u56 u57 u58 u59 u60 u61 u62 u63 u64 u65 u66 u67 u68 u69 u70 u71 u72 u73 u74 u75 u76 u77 u78 u79 u80 u81 u82 u83
     try dsimp only [Cu.over, Cu.rep, Cu.nth]
     intro hrel _ _ _ _
     clear H'; (try clear c5)
     obtain ⟨x5_2, rfl, HA, HK2, HB⟩ := hrel
     cases gk with
     | zero => exact absurd HA.out (by simp [gimbalref8_May.l0])
     | succ k2 =>
      have H := HA.out
      clear HA
      simp only [gimbalref8_May.l0] at H
      by_cases c6 : x5_2 < (l0.length : Int)
      ·rw [if_pos c6] at H
       have c6b0 : decide (x5_2 < (l0.length : Int)) = true := decide_eq_true c6
       clear c6
       have HC7 := Aside0.mk H
       clear H
       go_upto_region 6 with (fail)
       repeat (go_quiet (fail); go_upto_region 6 with (fail))
       refine Cu.wp_cut (Cu.rep 17 Cu.f (Cu.rep 67 Cu.t (Cu.rep 29 Cu.f []))) 67 (fun us_ wc => ∃ (kq : Nat) (x47_6 : Bool), (Cu.nth us_ 30) = .bool x47_6 ∧ Aside0 (gimbalref8_May.j2 kq l0 l1 x5_2 x47_6 = some r) ∧ Aside0 (kq ≤ k2) ∧ Aside0 (Below w.heap.size w wc)) ?_ ?_
       ·
        intro _ _ _ _
        have H := HC7.out
        clear HC7
        by_cases c8 : 0 ≤ x5_2
        ·rw [if_pos c8] at H
         have c8b0 : decide (0 ≤ x5_2) = true := decide_eq_true c8
         clear c8
         (first | rw [c8b0] | (simp only [i64_w, i32_w]; rw [c8b0]) | skip)
         replace H := Option.bind_eq_some_iff.mp H
         obtain ⟨t108, A90, H⟩ := H
         replace H : (if t108 = true then ((gimbalref8_in.f ((rd_T35 l0 x5_2).f1) 0 255).bind fun t110 => (if t110 = true then (gimbalref8_May.j2 k2 l0 l1 x5_2 (decide ((((rd_T35 l0 x5_2).f2).length : Int) > 4096))) else (gimbalref8_May.j2 k2 l0 l1 x5_2 true))) else (gimbalref8_May.j2 k2 l0 l1 x5_2 true)) = some r := H
         have A9 := Aside0.mk A90
         clear A90
         by_cases c10 : t108 = true
         ·subst c10
          have H1 : ((gimbalref8_in.f ((rd_T35 l0 x5_2).f1) 0 255).bind fun t110 => (if t110 = true then (gimbalref8_May.j2 k2 l0 l1 x5_2 (decide ((((rd_T35 l0 x5_2).f2).length : Int) > 4096))) else (gimbalref8_May.j2 k2 l0 l1 x5_2 true))) = some r := by rw [if_pos rfl] at H; exact H
          clear H
          have H := H1
          clear H1
          replace H := Option.bind_eq_some_iff.mp H
          obtain ⟨t110, A110, H⟩ := H
          replace H : (if t110 = true then (gimbalref8_May.j2 k2 l0 l1 x5_2 (decide ((((rd_T35 l0 x5_2).f2).length : Int) > 4096))) else (gimbalref8_May.j2 k2 l0 l1 x5_2 true)) = some r := H
          have A11 := Aside0.mk A110
          clear A110
          by_cases c12 : t110 = true
          ·subst c12
           have H1 : (gimbalref8_May.j2 k2 l0 l1 x5_2 (decide ((((rd_T35 l0 x5_2).f2).length : Int) > 4096))) = some r := by rw [if_pos rfl] at H; exact H
           clear H
           have H := H1
           clear H1
           have H' := Aside0.mk H
           clear H
           have p107 : 0 ≤ (x5_2 : Int) := of_decide_eq_true (by first | (with_reducible assumption) | assumption)
           have q107 : x5_2 < (l0.length : Int) := of_decide_eq_true (by first | (with_reducible assumption) | assumption)
           obtain ⟨ad107, A107_2, c107_2, e107, hx107_0, hx107_1, hx107_2, hl107_2, hi107_2⟩ := at_T35 HR0.out x5_2 p107 q107
           cases e107
           replace hx107_0 := (HB.out.cell (World.block_lt_of_cell? w _ hx107_0)).trans hx107_0
           replace hx107_1 := (HB.out.cell (World.block_lt_of_cell? w _ hx107_1)).trans hx107_1
           replace hx107_2 := (HB.out.cell (World.block_lt_of_cell? w _ hx107_2)).trans hx107_2
           have HR107_2 := Aside0.mk hi107_2
           have HC107_2 := Aside0.mk hl107_2
           clear hi107_2 hl107_2
           replace p107 := eq_true p107
           replace q107 := eq_true q107
           go_wp2_with (first | (go_at_call 28; (with_reducible refine (gimbalref8_in.calls ((rd_T35 l0 x5_2).f0) 0 127 true _ A9.out).mono ?_); rintro e w' ⟨rfl, ⟨nd, rfl⟩⟩; (try first | exact ⟨rfl, _, World.drewN_drewN _ _ _⟩ | exact ⟨rfl, _, Eq.trans (World.drewN_drewN _ _ _) (congrArg (World.drewN _) (Nat.add_assoc _ _ _))⟩); have p109 : 0 ≤ (x5_2 : Int) := of_decide_eq_true (by first | (with_reducible assumption) | assumption); have q109 : x5_2 < (l0.length : Int) := of_decide_eq_true (by first | (with_reducible assumption) | assumption); obtain ⟨ad109, A109_2, c109_2, e109, hx109_0, hx109_1, hx109_2, hl109_2, hi109_2⟩ := at_T35 HR0.out x5_2 p109 q109; obtain rfl : ad107 = ad109 := (by injection e109); replace hx109_0 := (HB.out.cell (World.block_lt_of_cell? w _ hx109_0)).trans hx109_0; replace hx109_1 := (HB.out.cell (World.block_lt_of_cell? w _ hx109_1)).trans hx109_1; replace hx109_2 := (HB.out.cell (World.block_lt_of_cell? w _ hx109_2)).trans hx109_2; have HR109_2 := Aside0.mk hi109_2; have HC109_2 := Aside0.mk hl109_2; clear hi109_2 hl109_2; replace p109 := eq_true p109; replace q109 := eq_true q109; have ea_ := Option.some.inj (hx107_2.symm.trans hx109_2); injection ea_ with ea_ en_ ec_; subst ea_; subst ec_; clear en_) | (go_at_call 28; (with_reducible refine (gimbalref8_in.calls ((rd_T35 l0 x5_2).f1) 0 255 true _ A11.out).mono ?_); rintro e w' ⟨rfl, ⟨nd, rfl⟩⟩; (try first | exact ⟨rfl, _, World.drewN_drewN _ _ _⟩ | exact ⟨rfl, _, Eq.trans (World.drewN_drewN _ _ _) (congrArg (World.drewN _) (Nat.add_assoc _ _ _))⟩); have p111 : 0 ≤ (x5_2 : Int) := of_decide_eq_true (by first | (with_reducible assumption) | assumption); have q111 : x5_2 < (l0.length : Int) := of_decide_eq_true (by first | (with_reducible assumption) | assumption); obtain ⟨ad111, A111_2, c111_2, e111, hx111_0, hx111_1, hx111_2, hl111_2, hi111_2⟩ := at_T35 HR0.out x5_2 p111 q111; obtain rfl : ad107 = ad111 := (by injection e111); replace hx111_0 := (HB.out.cell (World.block_lt_of_cell? w _ hx111_0)).trans hx111_0; replace hx111_1 := (HB.out.cell (World.block_lt_of_cell? w _ hx111_1)).trans hx111_1; replace hx111_2 := (HB.out.cell (World.block_lt_of_cell? w _ hx111_2)).trans hx111_2; have HR111_2 := Aside0.mk hi111_2; have HC111_2 := Aside0.mk hl111_2; clear hi111_2 hl111_2; replace p111 := eq_true p111; replace q111 := eq_true q111; have ea_ := Option.some.inj (hx107_2.symm.trans hx111_2); injection ea_ with ea_ en_ ec_; subst ea_; subst ec_; clear en_))
           repeat (go_quiet (first | (go_at_call 28; (with_reducible refine (gimbalref8_in.calls ((rd_T35 l0 x5_2).f0) 0 127 true _ A9.out).mono ?_); rintro e w' ⟨rfl, ⟨nd, rfl⟩⟩; (try first | exact ⟨rfl, _, World.drewN_drewN _ _ _⟩ | exact ⟨rfl, _, Eq.trans (World.drewN_drewN _ _ _) (congrArg (World.drewN _) (Nat.add_assoc _ _ _))⟩); have p109 : 0 ≤ (x5_2 : Int) := of_decide_eq_true (by first | (with_reducible assumption) | assumption); have q109 : x5_2 < (l0.length : Int) := of_decide_eq_true (by first | (with_reducible assumption) | assumption); obtain ⟨ad109, A109_2, c109_2, e109, hx109_0, hx109_1, hx109_2, hl109_2, hi109_2⟩ := at_T35 HR0.out x5_2 p109 q109; obtain rfl : ad107 = ad109 := (by injection e109); replace hx109_0 := (HB.out.cell (World.block_lt_of_cell? w _ hx109_0)).trans hx109_0; replace hx109_1 := (HB.out.cell (World.block_lt_of_cell? w _ hx109_1)).trans hx109_1; replace hx109_2 := (HB.out.cell (World.block_lt_of_cell? w _ hx109_2)).trans hx109_2; have HR109_2 := Aside0.mk hi109_2; have HC109_2 := Aside0.mk hl109_2; clear hi109_2 hl109_2; replace p109 := eq_true p109; replace q109 := eq_true q109; have ea_ := Option.some.inj (hx107_2.symm.trans hx109_2); injection ea_ with ea_ en_ ec_; subst ea_; subst ec_; clear en_) | (go_at_call 28; (with_reducible refine (gimbalref8_in.calls ((rd_T35 l0 x5_2).f1) 0 255 true _ A11.out).mono ?_); rintro e w' ⟨rfl, ⟨nd, rfl⟩⟩; (try first | exact ⟨rfl, _, World.drewN_drewN _ _ _⟩ | exact ⟨rfl, _, Eq.trans (World.drewN_drewN _ _ _) (congrArg (World.drewN _) (Nat.add_assoc _ _ _))⟩); have p111 : 0 ≤ (x5_2 : Int) := of_decide_eq_true (by first | (with_reducible assumption) | assumption); have q111 : x5_2 < (l0.length : Int) := of_decide_eq_true (by first | (with_reducible assumption) | assumption); obtain ⟨ad111, A111_2, c111_2, e111, hx111_0, hx111_1, hx111_2, hl111_2, hi111_2⟩ := at_T35 HR0.out x5_2 p111 q111; obtain rfl : ad107 = ad111 := (by injection e111); replace hx111_0 := (HB.out.cell (World.block_lt_of_cell? w _ hx111_0)).trans hx111_0; replace hx111_1 := (HB.out.cell (World.block_lt_of_cell? w _ hx111_1)).trans hx111_1; replace hx111_2 := (HB.out.cell (World.block_lt_of_cell? w _ hx111_2)).trans hx111_2; have HR111_2 := Aside0.mk hi111_2; have HC111_2 := Aside0.mk hl111_2; clear hi111_2 hl111_2; replace p111 := eq_true p111; replace q111 := eq_true q111; have ea_ := Option.some.inj (hx107_2.symm.trans hx111_2); injection ea_ with ea_ en_ ec_; subst ea_; subst ec_; clear en_)); try go_wp2_with (first | (go_at_call 28; (with_reducible refine (gimbalref8_in.calls ((rd_T35 l0 x5_2).f0) 0 127 true _ A9.out).mono ?_); rintro e w' ⟨rfl, ⟨nd, rfl⟩⟩; (try first | exact ⟨rfl, _, World.drewN_drewN _ _ _⟩ | exact ⟨rfl, _, Eq.trans (World.drewN_drewN _ _ _) (congrArg (World.drewN _) (Nat.add_assoc _ _ _))⟩); have p109 : 0 ≤ (x5_2 : Int) := of_decide_eq_true (by first | (with_reducible assumption) | assumption); have q109 : x5_2 < (l0.length : Int) := of_decide_eq_true (by first | (with_reducible assumption) | assumption); obtain ⟨ad109, A109_2, c109_2, e109, hx109_0, hx109_1, hx109_2, hl109_2, hi109_2⟩ := at_T35 HR0.out x5_2 p109 q109; obtain rfl : ad107 = ad109 := (by injection e109); replace hx109_0 := (HB.out.cell (World.block_lt_of_cell? w _ hx109_0)).trans hx109_0; replace hx109_1 := (HB.out.cell (World.block_lt_of_cell? w _ hx109_1)).trans hx109_1; replace hx109_2 := (HB.out.cell (World.block_lt_of_cell? w _ hx109_2)).trans hx109_2; have HR109_2 := Aside0.mk hi109_2; have HC109_2 := Aside0.mk hl109_2; clear hi109_2 hl109_2; replace p109 := eq_true p109; replace q109 := eq_true q109; have ea_ := Option.some.inj (hx107_2.symm.trans hx109_2); injection ea_ with ea_ en_ ec_; subst ea_; subst ec_; clear en_) | (go_at_call 28; (with_reducible refine (gimbalref8_in.calls ((rd_T35 l0 x5_2).f1) 0 255 true _ A11.out).mono ?_); rintro e w' ⟨rfl, ⟨nd, rfl⟩⟩; (try first | exact ⟨rfl, _, World.drewN_drewN _ _ _⟩ | exact ⟨rfl, _, Eq.trans (World.drewN_drewN _ _ _) (congrArg (World.drewN _) (Nat.add_assoc _ _ _))⟩); have p111 : 0 ≤ (x5_2 : Int) := of_decide_eq_true (by first | (with_reducible assumption) | assumption); have q111 : x5_2 < (l0.length : Int) := of_decide_eq_true (by first | (with_reducible assumption) | assumption); obtain ⟨ad111, A111_2, c111_2, e111, hx111_0, hx111_1, hx111_2, hl111_2, hi111_2⟩ := at_T35 HR0.out x5_2 p111 q111; obtain rfl : ad107 = ad111 := (by injection e111); replace hx111_0 := (HB.out.cell (World.block_lt_of_cell? w _ hx111_0)).trans hx111_0; replace hx111_1 := (HB.out.cell (World.block_lt_of_cell? w _ hx111_1)).trans hx111_1; replace hx111_2 := (HB.out.cell (World.block_lt_of_cell? w _ hx111_2)).trans hx111_2; have HR111_2 := Aside0.mk hi111_2; have HC111_2 := Aside0.mk hl111_2; clear hi111_2 hl111_2; replace p111 := eq_true p111; replace q111 := eq_true q111; have ea_ := Option.some.inj (hx107_2.symm.trans hx111_2); injection ea_ with ea_ en_ ec_; subst ea_; subst ec_; clear en_)))
           refine Cu.meet (by assumption) ?_ (by kernel_rfl) (by kernel_rfl)
           try dsimp only [Cu.pick, Cu.rep, Cu.nth]
           exact ⟨_, (decide ((((rd_T35 l0 x5_2).f2).length : Int) > 4096)), Sq.e, H', ⟨by have := HJ2.out; have := HK2.out; first | omega | exact Nat.le_refl _⟩, ⟨Sq.w HB.out⟩⟩
          ·replace c12 := Bool.eq_false_iff.mpr c12
           subst c12
           have H1 : (gimbalref8_May.j2 k2 l0 l1 x5_2 true) = some r := by rw [if_neg (show ¬ (false = true) by decide)] at H; exact H
           clear H
           have H := H1
           clear H1
           have H' := Aside0.mk H
           clear H
           have p107 : 0 ≤ (x5_2 : Int) := of_decide_eq_true (by first | (with_reducible assumption) | assumption)
           have q107 : x5_2 < (l0.length : Int) := of_decide_eq_true (by first | (with_reducible assumption) | assumption)
           obtain ⟨ad107, A107_2, c107_2, e107, hx107_0, hx107_1, hx107_2, hl107_2, hi107_2⟩ := at_T35 HR0.out x5_2 p107 q107
           cases e107
           replace hx107_0 := (HB.out.cell (World.block_lt_of_cell? w _ hx107_0)).trans hx107_0
           replace hx107_1 := (HB.out.cell (World.block_lt_of_cell? w _ hx107_1)).trans hx107_1
           replace hx107_2 := (HB.out.cell (World.block_lt_of_cell? w _ hx107_2)).trans hx107_2
           have HR107_2 := Aside0.mk hi107_2
           have HC107_2 := Aside0.mk hl107_2
           clear hi107_2 hl107_2
           replace p107 := eq_true p107
           replace q107 := eq_true q107
           go_wp2_with (first | (go_at_call 28; (with_reducible refine (gimbalref8_in.calls ((rd_T35 l0 x5_2).f0) 0 127 true _ A9.out).mono ?_); rintro e w' ⟨rfl, ⟨nd, rfl⟩⟩; (try first | exact ⟨rfl, _, World.drewN_drewN _ _ _⟩ | exact ⟨rfl, _, Eq.trans (World.drewN_drewN _ _ _) (congrArg (World.drewN _) (Nat.add_assoc _ _ _))⟩); have p109 : 0 ≤ (x5_2 : Int) := of_decide_eq_true (by first | (with_reducible assumption) | assumption); have q109 : x5_2 < (l0.length : Int) := of_decide_eq_true (by first | (with_reducible assumption) | assumption); obtain ⟨ad109, A109_2, c109_2, e109, hx109_0, hx109_1, hx109_2, hl109_2, hi109_2⟩ := at_T35 HR0.out x5_2 p109 q109; obtain rfl : ad107 = ad109 := (by injection e109); replace hx109_0 := (HB.out.cell (World.block_lt_of_cell? w _ hx109_0)).trans hx109_0; replace hx109_1 := (HB.out.cell (World.block_lt_of_cell? w _ hx109_1)).trans hx109_1; replace hx109_2 := (HB.out.cell (World.block_lt_of_cell? w _ hx109_2)).trans hx109_2; have HR109_2 := Aside0.mk hi109_2; have HC109_2 := Aside0.mk hl109_2; clear hi109_2 hl109_2; replace p109 := eq_true p109; replace q109 := eq_true q109; have ea_ := Option.some.inj (hx107_2.symm.trans hx109_2); injection ea_ with ea_ en_ ec_; subst ea_; subst ec_; clear en_) | (go_at_call 28; (with_reducible refine (gimbalref8_in.calls ((rd_T35 l0 x5_2).f1) 0 255 false _ A11.out).mono ?_); rintro e w' ⟨rfl, ⟨nd, rfl⟩⟩; (try first | exact ⟨rfl, _, World.drewN_drewN _ _ _⟩ | exact ⟨rfl, _, Eq.trans (World.drewN_drewN _ _ _) (congrArg (World.drewN _) (Nat.add_assoc _ _ _))⟩)))
           repeat (go_quiet (first | (go_at_call 28; (with_reducible refine (gimbalref8_in.calls ((rd_T35 l0 x5_2).f0) 0 127 true _ A9.out).mono ?_); rintro e w' ⟨rfl, ⟨nd, rfl⟩⟩; (try first | exact ⟨rfl, _, World.drewN_drewN _ _ _⟩ | exact ⟨rfl, _, Eq.trans (World.drewN_drewN _ _ _) (congrArg (World.drewN _) (Nat.add_assoc _ _ _))⟩); have p109 : 0 ≤ (x5_2 : Int) := of_decide_eq_true (by first | (with_reducible assumption) | assumption); have q109 : x5_2 < (l0.length : Int) := of_decide_eq_true (by first | (with_reducible assumption) | assumption); obtain ⟨ad109, A109_2, c109_2, e109, hx109_0, hx109_1, hx109_2, hl109_2, hi109_2⟩ := at_T35 HR0.out x5_2 p109 q109; obtain rfl : ad107 = ad109 := (by injection e109); replace hx109_0 := (HB.out.cell (World.block_lt_of_cell? w _ hx109_0)).trans hx109_0; replace hx109_1 := (HB.out.cell (World.block_lt_of_cell? w _ hx109_1)).trans hx109_1; replace hx109_2 := (HB.out.cell (World.block_lt_of_cell? w _ hx109_2)).trans hx109_2; have HR109_2 := Aside0.mk hi109_2; have HC109_2 := Aside0.mk hl109_2; clear hi109_2 hl109_2; replace p109 := eq_true p109; replace q109 := eq_true q109; have ea_ := Option.some.inj (hx107_2.symm.trans hx109_2); injection ea_ with ea_ en_ ec_; subst ea_; subst ec_; clear en_) | (go_at_call 28; (with_reducible refine (gimbalref8_in.calls ((rd_T35 l0 x5_2).f1) 0 255 false _ A11.out).mono ?_); rintro e w' ⟨rfl, ⟨nd, rfl⟩⟩; (try first | exact ⟨rfl, _, World.drewN_drewN _ _ _⟩ | exact ⟨rfl, _, Eq.trans (World.drewN_drewN _ _ _) (congrArg (World.drewN _) (Nat.add_assoc _ _ _))⟩))); try go_wp2_with (first | (go_at_call 28; (with_reducible refine (gimbalref8_in.calls ((rd_T35 l0 x5_2).f0) 0 127 true _ A9.out).mono ?_); rintro e w' ⟨rfl, ⟨nd, rfl⟩⟩; (try first | exact ⟨rfl, _, World.drewN_drewN _ _ _⟩ | exact ⟨rfl, _, Eq.trans (World.drewN_drewN _ _ _) (congrArg (World.drewN _) (Nat.add_assoc _ _ _))⟩); have p109 : 0 ≤ (x5_2 : Int) := of_decide_eq_true (by first | (with_reducible assumption) | assumption); have q109 : x5_2 < (l0.length : Int) := of_decide_eq_true (by first | (with_reducible assumption) | assumption); obtain ⟨ad109, A109_2, c109_2, e109, hx109_0, hx109_1, hx109_2, hl109_2, hi109_2⟩ := at_T35 HR0.out x5_2 p109 q109; obtain rfl : ad107 = ad109 := (by injection e109); replace hx109_0 := (HB.out.cell (World.block_lt_of_cell? w _ hx109_0)).trans hx109_0; replace hx109_1 := (HB.out.cell (World.block_lt_of_cell? w _ hx109_1)).trans hx109_1; replace hx109_2 := (HB.out.cell (World.block_lt_of_cell? w _ hx109_2)).trans hx109_2; have HR109_2 := Aside0.mk hi109_2; have HC109_2 := Aside0.mk hl109_2; clear hi109_2 hl109_2; replace p109 := eq_true p109; replace q109 := eq_true q109; have ea_ := Option.some.inj (hx107_2.symm.trans hx109_2); injection ea_ with ea_ en_ ec_; subst ea_; subst ec_; clear en_) | (go_at_call 28; (with_reducible refine (gimbalref8_in.calls ((rd_T35 l0 x5_2).f1) 0 255 false _ A11.out).mono ?_); rintro e w' ⟨rfl, ⟨nd, rfl⟩⟩; (try first | exact ⟨rfl, _, World.drewN_drewN _ _ _⟩ | exact ⟨rfl, _, Eq.trans (World.drewN_drewN _ _ _) (congrArg (World.drewN _) (Nat.add_assoc _ _ _))⟩))))
           refine Cu.meet (by assumption) ?_ (by kernel_rfl) (by kernel_rfl)
           try dsimp only [Cu.pick, Cu.rep, Cu.nth]
           exact ⟨_, (true), Sq.e, H', ⟨by have := HJ2.out; have := HK2.out; first | omega | exact Nat.le_refl _⟩, ⟨Sq.w HB.out⟩⟩
         ·replace c10 := Bool.eq_false_iff.mpr c10
          subst c10
          have H1 : (gimbalref8_May.j2 k2 l0 l1 x5_2 true) = some r := by rw [if_neg (show ¬ (false = true) by decide)] at H; exact H
          clear H
          have H := H1
          clear H1
          have H' := Aside0.mk H
          clear H
          have p107 : 0 ≤ (x5_2 : Int) := of_decide_eq_true (by first | (with_reducible assumption) | assumption)
          have q107 : x5_2 < (l0.length : Int) := of_decide_eq_true (by first | (with_reducible assumption) | assumption)
          obtain ⟨ad107, A107_2, c107_2, e107, hx107_0, hx107_1, hx107_2, hl107_2, hi107_2⟩ := at_T35 HR0.out x5_2 p107 q107
          cases e107
          replace hx107_0 := (HB.out.cell (World.block_lt_of_cell? w _ hx107_0)).trans hx107_0
          replace hx107_1 := (HB.out.cell (World.block_lt_of_cell? w _ hx107_1)).trans hx107_1
          replace hx107_2 := (HB.out.cell (World.block_lt_of_cell? w _ hx107_2)).trans hx107_2
          have HR107_2 := Aside0.mk hi107_2
          have HC107_2 := Aside0.mk hl107_2
          clear hi107_2 hl107_2
          replace p107 := eq_true p107
          replace q107 := eq_true q107
          go_wp2_with (first | (go_at_call 28; (with_reducible refine (gimbalref8_in.calls ((rd_T35 l0 x5_2).f0) 0 127 false _ A9.out).mono ?_); rintro e w' ⟨rfl, ⟨nd, rfl⟩⟩; (try first | exact ⟨rfl, _, World.drewN_drewN _ _ _⟩ | exact ⟨rfl, _, Eq.trans (World.drewN_drewN _ _ _) (congrArg (World.drewN _) (Nat.add_assoc _ _ _))⟩)))
          repeat (go_quiet (first | (go_at_call 28; (with_reducible refine (gimbalref8_in.calls ((rd_T35 l0 x5_2).f0) 0 127 false _ A9.out).mono ?_); rintro e w' ⟨rfl, ⟨nd, rfl⟩⟩; (try first | exact ⟨rfl, _, World.drewN_drewN _ _ _⟩ | exact ⟨rfl, _, Eq.trans (World.drewN_drewN _ _ _) (congrArg (World.drewN _) (Nat.add_assoc _ _ _))⟩))); try go_wp2_with (first | (go_at_call 28; (with_reducible refine (gimbalref8_in.calls ((rd_T35 l0 x5_2).f0) 0 127 false _ A9.out).mono ?_); rintro e w' ⟨rfl, ⟨nd, rfl⟩⟩; (try first | exact ⟨rfl, _, World.drewN_drewN _ _ _⟩ | exact ⟨rfl, _, Eq.trans (World.drewN_drewN _ _ _) (congrArg (World.drewN _) (Nat.add_assoc _ _ _))⟩))))
          refine Cu.meet (by assumption) ?_ (by kernel_rfl) (by kernel_rfl)
          try dsimp only [Cu.pick, Cu.rep, Cu.nth]
          exact ⟨_, (true), Sq.e, H', ⟨by have := HJ2.out; have := HK2.out; first | omega | exact Nat.le_refl _⟩, ⟨Sq.w HB.out⟩⟩
        ·rw [if_neg c8] at H
         exact absurd H (by simp)
       ·
        intro wc u17 u18 u19 u20 u21 u22 u23 u24 u25 u26 u27 u28 u29 u30 u31 u32 u33 u34 u35 u36 u37 u38 u39 u40 u41 u42 u43 u44 u45 u46 u47 u48 u49 u50 u51 u52 u53 u54 u55 u56 u57 u58 u59 u60 u61 u62 u63 u64 u65 u66 u67 u68 u69 u70 u71 u72 u73 u74 u75 u76 u77 u78 u79 u80 u81 u82 u83
        try dsimp only [Cu.over, Cu.rep, Cu.nth]
        intro hcut
        clear HC7; (try clear c6b0)
        obtain ⟨kq, x47_6, rfl, HA, HJ6, HB⟩ := hcut
        cases kq with
        | zero => exact absurd HA.out (by simp [gimbalref8_May.j2])
        | succ kj6 =>
         have H := HA.out
         clear HA
         simp only [gimbalref8_May.j2] at H
         by_cases c13 : x47_6 = true
         ·subst c13
          have H1 : (some false) = some r := by rw [if_pos rfl] at H; exact H
          clear H
          have H := H1
          clear H1
          obtain rfl := Option.some.inj H
          go_wp2
          repeat (go_quiet (fail); try go_wp2)
          go_ret
          exact ⟨by first | rfl | (simp [errW_none, errW_some] <;> rfl) | (simp [*, errW_none, errW_some] <;> rfl), Sq.w HB.out⟩
         ·replace c13 := Bool.eq_false_iff.mpr c13
          subst c13
          have H1 : (gimbalref8_May.l1 kj6 l0 l1 x5_2 0) = some r := by rw [if_neg (show ¬ (false = true) by decide)] at H; exact H
          clear H
          have H := H1
          clear H1
          have H' := Aside0.mk H
          clear H
          go_wp2
          repeat (go_quiet (fail); try go_wp2)
          refine Cu.wp_loop (Cu.rep 4 Cu.f (Cu.rep 1 Cu.t (Cu.rep 1 Cu.f (Cu.rep 1 Cu.t (Cu.rep 41 Cu.f (Cu.rep 20 Cu.t (Cu.rep 45 Cu.f []))))))) 22 (fun kq us_ w' => ∃ (x6_4 : Int), (Cu.nth us_ 1) = .int .i64 x6_4 ∧ Aside0 (gimbalref8_May.l1 kq l0 l1 x5_2 x6_4 = some r) ∧ Aside0 (kq ≤ kj6) ∧ Aside0 (Below w.heap.size w w')) kj6 ?_ (by kernel_rfl) (by kernel_rfl) ?_
          · try dsimp only [Cu.pick, Cu.rep, Cu.nth]
            exact ⟨(0), Sq.e, H', ⟨Nat.le_refl _⟩, ⟨Sq.w HB.out⟩⟩
          ·
           intro gk wr u4 u6 u48 u49 u50 u51 u52 u53 u54 u55 u56 u57 u58 u59 u60 u61 u62 u63 u64 u65 u66 u67
           try dsimp only [Cu.over, Cu.rep, Cu.nth]
           intro hrel _ _ _ _
           clear H'; (try clear c13)
           obtain ⟨x6_4, rfl, HA, HK4, HB⟩ := hrel
           cases gk with
           | zero => exact absurd HA.out (by simp [gimbalref8_May.l1])
           | succ k4 =>
            have H := HA.out
            clear HA
            simp only [gimbalref8_May.l1] at H
            by_cases c14 : 0 ≤ x5_2
            ·rw [if_pos c14] at H
             have c14b0 : decide (0 ≤ x5_2) = true := decide_eq_true c14
             clear c14
             by_cases c15 : x5_2 < (l0.length : Int)
             ·rw [if_pos c15] at H
              have c15b0 : decide (x5_2 < (l0.length : Int)) = true := decide_eq_true c15
              clear c15
              by_cases c16 : x6_4 < (((rd_T35 l0 x5_2).f2).length : Int)
              ·rw [if_pos c16] at H
               have c16b0 : decide (x6_4 < (((rd_T35 l0 x5_2).f2).length : Int)) = true := decide_eq_true c16
               clear c16
               by_cases c17 : 0 ≤ x6_4
               ·rw [if_pos c17] at H
                have c17b0 : decide (0 ≤ x6_4) = true := decide_eq_true c17
                clear c17
                replace H := Option.bind_eq_some_iff.mp H
                obtain ⟨t115, A180, H⟩ := H
                replace H : (if t115 = true then (gimbalref8_May.l1 k4 l0 l1 x5_2 (wrap64 (x6_4 + 1))) else (some false)) = some r := H
                have A18 := Aside0.mk A180
                clear A180
                by_cases c19 : t115 = true
                ·subst c19
                 have H1 : (gimbalref8_May.l1 k4 l0 l1 x5_2 (wrap64 (x6_4 + 1))) = some r := by rw [if_pos rfl] at H; exact H
                 clear H
                 have H := H1
                 clear H1
                 have H' := Aside0.mk H
                 clear H
                 have p112 : 0 ≤ (x5_2 : Int) := of_decide_eq_true (by first | (with_reducible assumption) | assumption)
                 have q112 : x5_2 < (l0.length : Int) := of_decide_eq_true (by first | (with_reducible assumption) | assumption)
                 obtain ⟨ad112, A112_2, c112_2, e112, hx112_0, hx112_1, hx112_2, hl112_2, hi112_2⟩ := at_T35 HR0.out x5_2 p112 q112
                 cases e112
                 replace hx112_0 := (HB.out.cell (World.block_lt_of_cell? w _ hx112_0)).trans hx112_0
                 replace hx112_1 := (HB.out.cell (World.block_lt_of_cell? w _ hx112_1)).trans hx112_1
                 replace hx112_2 := (HB.out.cell (World.block_lt_of_cell? w _ hx112_2)).trans hx112_2
                 have HR112_2 := Aside0.mk hi112_2
                 have HC112_2 := Aside0.mk hl112_2
                 clear hi112_2 hl112_2
                 replace p112 := eq_true p112
                 replace q112 := eq_true q112
                 have p113 : 0 ≤ (x5_2 : Int) := of_decide_eq_true (by first | (with_reducible assumption) | assumption)
                 have q113 : x5_2 < (l0.length : Int) := of_decide_eq_true (by first | (with_reducible assumption) | assumption)
                 obtain ⟨ad113, A113_2, c113_2, e113, hx113_0, hx113_1, hx113_2, hl113_2, hi113_2⟩ := at_T35 HR0.out x5_2 p113 q113
                 obtain rfl : ad112 = ad113 := (by injection e113)
                 replace hx113_0 := (HB.out.cell (World.block_lt_of_cell? w _ hx113_0)).trans hx113_0
                 replace hx113_1 := (HB.out.cell (World.block_lt_of_cell? w _ hx113_1)).trans hx113_1
                 replace hx113_2 := (HB.out.cell (World.block_lt_of_cell? w _ hx113_2)).trans hx113_2
                 have HR113_2 := Aside0.mk hi113_2
                 have HC113_2 := Aside0.mk hl113_2
                 clear hi113_2 hl113_2
                 replace p113 := eq_true p113
                 replace q113 := eq_true q113
                 have ea_ := Option.some.inj (hx112_2.symm.trans hx113_2)
                 injection ea_ with ea_ en_ ec_
                 subst ea_
                 subst ec_
                 clear en_
                 have p114 : 0 ≤ (x6_4 : Int) := of_decide_eq_true (by first | (with_reducible assumption) | assumption)
                 have q114 : x6_4 < (((rd_T35 l0 x5_2).f2).length : Int) := of_decide_eq_true (by first | (with_reducible assumption) | assumption)
                 obtain ⟨ad114, e114, hx114_0, hx114_1, hx114_2, hx114_3⟩ := at_T60 HR113_2.out x6_4 p114 q114
                 cases e114
                 replace hx114_0 := (HB.out.cell (World.block_lt_of_cell? w _ hx114_0)).trans hx114_0
                 replace hx114_1 := (HB.out.cell (World.block_lt_of_cell? w _ hx114_1)).trans hx114_1
                 replace hx114_2 := (HB.out.cell (World.block_lt_of_cell? w _ hx114_2)).trans hx114_2
                 replace hx114_3 := (HB.out.cell (World.block_lt_of_cell? w _ hx114_3)).trans hx114_3
                 replace p114 := eq_true p114
                 replace q114 := eq_true q114
                 go_wp2_with (first | (go_at_call 29; (with_reducible refine (gimbalref8_MayRaw.calls ((rd_T60 ((rd_T35 l0 x5_2).f2) x6_4).f0) ((rd_T60 ((rd_T35 l0 x5_2).f2) x6_4).f1) ((rd_T60 ((rd_T35 l0 x5_2).f2) x6_4).f2) ((rd_T60 ((rd_T35 l0 x5_2).f2) x6_4).f3) true _ A18.out).mono ?_); rintro e w20 ⟨rfl, hb⟩; replace HB := Sq.sw HB hb; (try clear hb); (try clear hb2); (try clear hk); (try clear hi)))
                 repeat (go_quiet (first | (go_at_call 29; (with_reducible refine (gimbalref8_MayRaw.calls ((rd_T60 ((rd_T35 l0 x5_2).f2) x6_4).f0) ((rd_T60 ((rd_T35 l0 x5_2).f2) x6_4).f1) ((rd_T60 ((rd_T35 l0 x5_2).f2) x6_4).f2) ((rd_T60 ((rd_T35 l0 x5_2).f2) x6_4).f3) true _ A18.out).mono ?_); rintro e w20 ⟨rfl, hb⟩; replace HB := Sq.sw HB hb; (try clear hb); (try clear hb2); (try clear hk); (try clear hi))); try go_wp2_with (first | (go_at_call 29; (with_reducible refine (gimbalref8_MayRaw.calls ((rd_T60 ((rd_T35 l0 x5_2).f2) x6_4).f0) ((rd_T60 ((rd_T35 l0 x5_2).f2) x6_4).f1) ((rd_T60 ((rd_T35 l0 x5_2).f2) x6_4).f2) ((rd_T60 ((rd_T35 l0 x5_2).f2) x6_4).f3) true _ A18.out).mono ?_); rintro e w20 ⟨rfl, hb⟩; replace HB := Sq.sw HB hb; (try clear hb); (try clear hb2); (try clear hk); (try clear hi))))
                 refine Cu.handed k4 (by have := HJ2.out; have := HK2.out; have := HJ6.out; have := HK4.out; omega) (by assumption) ?_ (by kernel_rfl) (by kernel_rfl)
                 try dsimp only [Cu.pick, Cu.rep, Cu.nth]
                 exact ⟨(wrap64 (x6_4 + 1)), Sq.e, H', ⟨by have := HJ2.out; have := HK2.out; have := HJ6.out; have := HK4.out; omega⟩, ⟨Sq.w HB.out⟩⟩
                ·replace c19 := Bool.eq_false_iff.mpr c19
                 subst c19
                 have H1 : (some false) = some r := by rw [if_neg (show ¬ (false = true) by decide)] at H; exact H
                 clear H
                 have H := H1
                 clear H1
                 obtain rfl := Option.some.inj H
                 have p112 : 0 ≤ (x5_2 : Int) := of_decide_eq_true (by first | (with_reducible assumption) | assumption)
                 have q112 : x5_2 < (l0.length : Int) := of_decide_eq_true (by first | (with_reducible assumption) | assumption)
                 obtain ⟨ad112, A112_2, c112_2, e112, hx112_0, hx112_1, hx112_2, hl112_2, hi112_2⟩ := at_T35 HR0.out x5_2 p112 q112
                 cases e112
                 replace hx112_0 := (HB.out.cell (World.block_lt_of_cell? w _ hx112_0)).trans hx112_0
                 replace hx112_1 := (HB.out.cell (World.block_lt_of_cell? w _ hx112_1)).trans hx112_1
                 replace hx112_2 := (HB.out.cell (World.block_lt_of_cell? w _ hx112_2)).trans hx112_2
                 have HR112_2 := Aside0.mk hi112_2
                 have HC112_2 := Aside0.mk hl112_2
                 clear hi112_2 hl112_2
                 replace p112 := eq_true p112
                 replace q112 := eq_true q112
                 have p113 : 0 ≤ (x5_2 : Int) := of_decide_eq_true (by first | (with_reducible assumption) | assumption)
                 have q113 : x5_2 < (l0.length : Int) := of_decide_eq_true (by first | (with_reducible assumption) | assumption)
                 obtain ⟨ad113, A113_2, c113_2, e113, hx113_0, hx113_1, hx113_2, hl113_2, hi113_2⟩ := at_T35 HR0.out x5_2 p113 q113
                 obtain rfl : ad112 = ad113 := (by injection e113)
                 replace hx113_0 := (HB.out.cell (World.block_lt_of_cell? w _ hx113_0)).trans hx113_0
                 replace hx113_1 := (HB.out.cell (World.block_lt_of_cell? w _ hx113_1)).trans hx113_1
                 replace hx113_2 := (HB.out.cell (World.block_lt_of_cell? w _ hx113_2)).trans hx113_2
                 have HR113_2 := Aside0.mk hi113_2
                 have HC113_2 := Aside0.mk hl113_2
                 clear hi113_2 hl113_2
                 replace p113 := eq_true p113
                 replace q113 := eq_true q113
                 have ea_ := Option.some.inj (hx112_2.symm.trans hx113_2)
                 injection ea_ with ea_ en_ ec_
                 subst ea_
                 subst ec_
                 clear en_
                 have p114 : 0 ≤ (x6_4 : Int) := of_decide_eq_true (by first | (with_reducible assumption) | assumption)
                 have q114 : x6_4 < (((rd_T35 l0 x5_2).f2).length : Int) := of_decide_eq_true (by first | (with_reducible assumption) | assumption)
                 obtain ⟨ad114, e114, hx114_0, hx114_1, hx114_2, hx114_3⟩ := at_T60 HR113_2.out x6_4 p114 q114
                 cases e114
                 replace hx114_0 := (HB.out.cell (World.block_lt_of_cell? w _ hx114_0)).trans hx114_0
                 replace hx114_1 := (HB.out.cell (World.block_lt_of_cell? w _ hx114_1)).trans hx114_1
                 replace hx114_2 := (HB.out.cell (World.block_lt_of_cell? w _ hx114_2)).trans hx114_2
                 replace hx114_3 := (HB.out.cell (World.block_lt_of_cell? w _ hx114_3)).trans hx114_3
                 replace p114 := eq_true p114
                 replace q114 := eq_true q114
                 go_wp2_with (first | (go_at_call 29; (with_reducible refine (gimbalref8_MayRaw.calls ((rd_T60 ((rd_T35 l0 x5_2).f2) x6_4).f0) ((rd_T60 ((rd_T35 l0 x5_2).f2) x6_4).f1) ((rd_T60 ((rd_T35 l0 x5_2).f2) x6_4).f2) ((rd_T60 ((rd_T35 l0 x5_2).f2) x6_4).f3) false _ A18.out).mono ?_); rintro e w21 ⟨rfl, hb⟩; replace HB := Sq.sw HB hb; (try clear hb); (try clear hb2); (try clear hk); (try clear hi)))
                 repeat (go_quiet (first | (go_at_call 29; (with_reducible refine (gimbalref8_MayRaw.calls ((rd_T60 ((rd_T35 l0 x5_2).f2) x6_4).f0) ((rd_T60 ((rd_T35 l0 x5_2).f2) x6_4).f1) ((rd_T60 ((rd_T35 l0 x5_2).f2) x6_4).f2) ((rd_T60 ((rd_T35 l0 x5_2).f2) x6_4).f3) false _ A18.out).mono ?_); rintro e w21 ⟨rfl, hb⟩; replace HB := Sq.sw HB hb; (try clear hb); (try clear hb2); (try clear hk); (try clear hi))); try go_wp2_with (first | (go_at_call 29; (with_reducible refine (gimbalref8_MayRaw.calls ((rd_T60 ((rd_T35 l0 x5_2).f2) x6_4).f0) ((rd_T60 ((rd_T35 l0 x5_2).f2) x6_4).f1) ((rd_T60 ((rd_T35 l0 x5_2).f2) x6_4).f2) ((rd_T60 ((rd_T35 l0 x5_2).f2) x6_4).f3) false _ A18.out).mono ?_); rintro e w21 ⟨rfl, hb⟩; replace HB := Sq.sw HB hb; (try clear hb); (try clear hb2); (try clear hk); (try clear hi))))
                 go_ret
                 exact ⟨by first | rfl | (simp [errW_none, errW_some] <;> rfl) | (simp [*, errW_none, errW_some] <;> rfl), Sq.w HB.out⟩
               ·rw [if_neg c17] at H
                exact absurd H (by simp)
              ·rw [if_neg c16] at H
               have c16b0 : decide (x6_4 < (((rd_T35 l0 x5_2).f2).length : Int)) = false := decide_eq_false c16
               clear c16
               have H' := Aside0.mk H
               clear H
               have p112 : 0 ≤ (x5_2 : Int) := of_decide_eq_true (by first | (with_reducible assumption) | assumption)
               have q112 : x5_2 < (l0.length : Int) := of_decide_eq_true (by first | (with_reducible assumption) | assumption)
               obtain ⟨ad112, A112_2, c112_2, e112, hx112_0, hx112_1, hx112_2, hl112_2, hi112_2⟩ := at_T35 HR0.out x5_2 p112 q112
               cases e112
               replace hx112_0 := (HB.out.cell (World.block_lt_of_cell? w _ hx112_0)).trans hx112_0
               replace hx112_1 := (HB.out.cell (World.block_lt_of_cell? w _ hx112_1)).trans hx112_1
               replace hx112_2 := (HB.out.cell (World.block_lt_of_cell? w _ hx112_2)).trans hx112_2
               have HR112_2 := Aside0.mk hi112_2
               have HC112_2 := Aside0.mk hl112_2
               clear hi112_2 hl112_2
               replace p112 := eq_true p112
               replace q112 := eq_true q112
               go_wp2
               repeat (go_quiet (fail); try go_wp2)
               refine Cu.wp_loop (Cu.rep 4 Cu.f (Cu.rep 1 Cu.t (Cu.rep 2 Cu.f (Cu.rep 1 Cu.t (Cu.rep 60 Cu.f (Cu.rep 16 Cu.t (Cu.rep 29 Cu.f []))))))) 18 (fun kq us_ w' => ∃ (x7_5 : Int), (Cu.nth us_ 1) = .int .i64 x7_5 ∧ Aside0 (gimbalref8_May.l2 kq l0 l1 x5_2 x7_5 = some r) ∧ Aside0 (kq ≤ k4) ∧ Aside0 (Below w.heap.size w w')) k4 ?_ (by kernel_rfl) (by kernel_rfl) ?_
               · try dsimp only [Cu.pick, Cu.rep, Cu.nth]
                 exact ⟨(0), Sq.e, H', ⟨Nat.le_refl _⟩, ⟨Sq.w HB.out⟩⟩
               ·
                intro gk wr u4 u7 u68 u69 u70 u71 u72 u73 u74 u75 u76 u77 u78 u79 u80 u81 u82 u83
                try dsimp only [Cu.over, Cu.rep, Cu.nth]
                intro hrel _ _ _ _
                clear H'; (try clear c14b0); (try clear c15b0); (try clear c16b0); (try clear hx112_0); (try clear hx112_1); (try clear hx112_2); (try clear p112); (try clear q112)
                obtain ⟨x7_5, rfl, HA, HK5, HB⟩ := hrel
                cases gk with
                | zero => exact absurd HA.out (by simp [gimbalref8_May.l2])
                | succ k5 =>
                 have H := HA.out
                 clear HA
                 simp only [gimbalref8_May.l2] at H
                 by_cases c22 : x7_5 < x5_2
                 ·rw [if_pos c22] at H
                  have c22b0 : decide (x7_5 < x5_2) = true := decide_eq_true c22
                  clear c22
                  by_cases c23 : 0 ≤ x7_5
                  ·rw [if_pos c23] at H
                   have c23b0 : decide (0 ≤ x7_5) = true := decide_eq_true c23
                   clear c23
                   by_cases c24 : x7_5 < (l0.length : Int)
                   ·rw [if_pos c24] at H
                    have c24b0 : decide (x7_5 < (l0.length : Int)) = true := decide_eq_true c24
                    clear c24
                    by_cases c25 : 0 ≤ x5_2
                    ·rw [if_pos c25] at H
                     have c25b0 : decide (0 ≤ x5_2) = true := decide_eq_true c25
                     clear c25
                     by_cases c26 : x5_2 < (l0.length : Int)
                     ·rw [if_pos c26] at H
                      have c26b0 : decide (x5_2 < (l0.length : Int)) = true := decide_eq_true c26
                      clear c26
                      by_cases c27 : ((rd_T35 l0 x7_5).f0) = ((rd_T35 l0 x5_2).f0)
                      ·rw [if_pos c27] at H
                       have c27b0 : (((rd_T35 l0 x7_5).f0) == ((rd_T35 l0 x5_2).f0)) = true := beq_iff_eq.mpr c27
                       have c27b1 : (((rd_T35 l0 x7_5).f0) != ((rd_T35 l0 x5_2).f0)) = false := bne_eq_false_iff_eq.mpr c27
                       clear c27
                       obtain rfl := Option.some.inj H
                       have p116 : 0 ≤ (x7_5 : Int) := of_decide_eq_true (by first | (with_reducible assumption) | assumption)
                       have q116 : x7_5 < (l0.length : Int) := of_decide_eq_true (by first | (with_reducible assumption) | assumption)
                       obtain ⟨ad116, A116_2, c116_2, e116, hx116_0, hx116_1, hx116_2, hl116_2, hi116_2⟩ := at_T35 HR0.out x7_5 p116 q116
                       obtain rfl : ad112 = ad116 := (by injection e116)
                       replace hx116_0 := (HB.out.cell (World.block_lt_of_cell? w _ hx116_0)).trans hx116_0
                       replace hx116_1 := (HB.out.cell (World.block_lt_of_cell? w _ hx116_1)).trans hx116_1
                       replace hx116_2 := (HB.out.cell (World.block_lt_of_cell? w _ hx116_2)).trans hx116_2
                       have HR116_2 := Aside0.mk hi116_2
                       have HC116_2 := Aside0.mk hl116_2
                       clear hi116_2 hl116_2
                       replace p116 := eq_true p116
                       replace q116 := eq_true q116
                       have p117 : 0 ≤ (x5_2 : Int) := of_decide_eq_true (by first | (with_reducible assumption) | assumption)
                       have q117 : x5_2 < (l0.length : Int) := of_decide_eq_true (by first | (with_reducible assumption) | assumption)
                       obtain ⟨ad117, A117_2, c117_2, e117, hx117_0, hx117_1, hx117_2, hl117_2, hi117_2⟩ := at_T35 HR0.out x5_2 p117 q117
                       obtain rfl : ad112 = ad117 := (by injection e117)
                       replace hx117_0 := (HB.out.cell (World.block_lt_of_cell? w _ hx117_0)).trans hx117_0
                       replace hx117_1 := (HB.out.cell (World.block_lt_of_cell? w _ hx117_1)).trans hx117_1
                       replace hx117_2 := (HB.out.cell (World.block_lt_of_cell? w _ hx117_2)).trans hx117_2
                       have HR117_2 := Aside0.mk hi117_2
                       have HC117_2 := Aside0.mk hl117_2
                       clear hi117_2 hl117_2
                       replace p117 := eq_true p117
                       replace q117 := eq_true q117
                       go_wp2
                       repeat (go_quiet (fail); try go_wp2)
                       go_ret
                       exact ⟨by first | rfl | (simp [errW_none, errW_some] <;> rfl) | (simp [*, errW_none, errW_some] <;> rfl), Sq.w HB.out⟩
                      ·rw [if_neg c27] at H
                       have c27b0 : (((rd_T35 l0 x7_5).f0) == ((rd_T35 l0 x5_2).f0)) = false := beq_eq_false_iff_ne.mpr c27
                       have c27b1 : (((rd_T35 l0 x7_5).f0) != ((rd_T35 l0 x5_2).f0)) = true := bne_iff_ne.mpr c27
                       have H' := Aside0.mk H
                       clear H
                       have p116 : 0 ≤ (x7_5 : Int) := of_decide_eq_true (by first | (with_reducible assumption) | assumption)
                       have q116 : x7_5 < (l0.length : Int) := of_decide_eq_true (by first | (with_reducible assumption) | assumption)
                       obtain ⟨ad116, A116_2, c116_2, e116, hx116_0, hx116_1, hx116_2, hl116_2, hi116_2⟩ := at_T35 HR0.out x7_5 p116 q116
                       obtain rfl : ad112 = ad116 := (by injection e116)
                       replace hx116_0 := (HB.out.cell (World.block_lt_of_cell? w _ hx116_0)).trans hx116_0
                       replace hx116_1 := (HB.out.cell (World.block_lt_of_cell? w _ hx116_1)).trans hx116_1
                       replace hx116_2 := (HB.out.cell (World.block_lt_of_cell? w _ hx116_2)).trans hx116_2
                       have HR116_2 := Aside0.mk hi116_2
                       have HC116_2 := Aside0.mk hl116_2
                       clear hi116_2 hl116_2
                       replace p116 := eq_true p116
                       replace q116 := eq_true q116
                       have p117 : 0 ≤ (x5_2 : Int) := of_decide_eq_true (by first | (with_reducible assumption) | assumption)
                       have q117 : x5_2 < (l0.length : Int) := of_decide_eq_true (by first | (with_reducible assumption) | assumption)
                       obtain ⟨ad117, A117_2, c117_2, e117, hx117_0, hx117_1, hx117_2, hl117_2, hi117_2⟩ := at_T35 HR0.out x5_2 p117 q117
                       obtain rfl : ad112 = ad117 := (by injection e117)
                       replace hx117_0 := (HB.out.cell (World.block_lt_of_cell? w _ hx117_0)).trans hx117_0
                       replace hx117_1 := (HB.out.cell (World.block_lt_of_cell? w _ hx117_1)).trans hx117_1
                       replace hx117_2 := (HB.out.cell (World.block_lt_of_cell? w _ hx117_2)).trans hx117_2
                       have HR117_2 := Aside0.mk hi117_2
                       have HC117_2 := Aside0.mk hl117_2
                       clear hi117_2 hl117_2
                       replace p117 := eq_true p117
                       replace q117 := eq_true q117
                       go_wp2
                       repeat (go_quiet (fail); try go_wp2)
                       refine Cu.handed k5 (by have := HJ2.out; have := HK2.out; have := HJ6.out; have := HK4.out; have := HK5.out; omega) (by assumption) ?_ (by kernel_rfl) (by kernel_rfl)
                       try dsimp only [Cu.pick, Cu.rep, Cu.nth]
                       exact ⟨(wrap64 (x7_5 + 1)), Sq.e, H', ⟨by have := HJ2.out; have := HK2.out; have := HJ6.out; have := HK4.out; have := HK5.out; omega⟩, ⟨Sq.w HB.out⟩⟩
                     ·rw [if_neg c26] at H
                      exact absurd H (by simp)
                    ·rw [if_neg c25] at H
                     exact absurd H (by simp)
                   ·rw [if_neg c24] at H
                    exact absurd H (by simp)
                  ·rw [if_neg c23] at H
                   exact absurd H (by simp)
                 ·rw [if_neg c22] at H
                  have c22b0 : decide (x7_5 < x5_2) = false := decide_eq_false c22
                  clear c22
                  have H' := Aside0.mk H
                  clear H
                  go_wp2
                  repeat (go_quiet (fail); try go_wp2)
                  refine Cu.handed k5 (by have := HJ2.out; have := HK2.out; have := HJ6.out; have := HK4.out; have := HK5.out; omega) (by assumption) ?_ (by kernel_rfl) (by kernel_rfl)
                  try dsimp only [Cu.pick, Cu.rep, Cu.nth]
                  exact ⟨(wrap64 (x5_2 + 1)), Sq.e, H', ⟨by have := HJ2.out; have := HK2.out; have := HJ6.out; have := HK4.out; have := HK5.out; omega⟩, ⟨Sq.w HB.out⟩⟩
             ·rw [if_neg c15] at H
              exact absurd H (by simp)
            ·rw [if_neg c14] at H
             exact absurd H (by simp)
      ·rw [if_neg c6] at H
       have c6b0 : decide (x5_2 < (l0.length : Int)) = false := decide_eq_false c6
       clear c6
       have H' := Aside0.mk H
       clear H
       go_wp2
       repeat (go_quiet (fail); try go_wp2)
       refine Cu.wp_loop (Cu.rep 4 Cu.f (Cu.rep 1 Cu.t (Cu.rep 3 Cu.f (Cu.rep 1 Cu.t (Cu.rep 75 Cu.f (Cu.rep 29 Cu.t [])))))) 31 (fun kq us_ w' => ∃ (x8_3 : Int), (Cu.nth us_ 1) = .int .i64 x8_3 ∧ Aside0 (gimbalref8_May.l3 kq l1 x8_3 = some r) ∧ Aside0 (kq ≤ k2) ∧ Aside0 (Below w.heap.size w w')) k2 ?_ (by kernel_rfl) (by kernel_rfl) ?_
       · try dsimp only [Cu.pick, Cu.rep, Cu.nth]
         exact ⟨(0), Sq.e, H', ⟨Nat.le_refl _⟩, ⟨Sq.w HB.out⟩⟩
       ·
        intro gk wr u4 u8 u84 u85 u86 u87 u88 u89 u90 u91 u92 u93 u94 u95 u96 u97 u98 u99 u100 u101 u102 u103 u104 u105 u106 u107 u108 u109 u110 u111 u112
        try dsimp only [Cu.over, Cu.rep, Cu.nth]
        intro hrel _ _ _ _
        clear H'; (try clear c6b0)
        obtain ⟨x8_3, rfl, HA, HK3, HB⟩ := hrel
        cases gk with
        | zero => exact absurd HA.out (by simp [gimbalref8_May.l3])
        | succ k3 =>
         have H := HA.out
         clear HA
         simp only [gimbalref8_May.l3] at H
         by_cases c28 : x8_3 < (l1.length : Int)
         ·rw [if_pos c28] at H
          have c28b0 : decide (x8_3 < (l1.length : Int)) = true := decide_eq_true c28
          clear c28
          by_cases c29 : 0 ≤ x8_3
          ·rw [if_pos c29] at H
           have c29b0 : decide (0 ≤ x8_3) = true := decide_eq_true c29
           clear c29
           by_cases c30 : ((rd_T54 l1 x8_3).f0) < 1
           ·rw [if_pos c30] at H
            have c30b0 : decide (((rd_T54 l1 x8_3).f0) < 1) = true := decide_eq_true c30
            clear c30
            obtain rfl := Option.some.inj H
            have p118 : 0 ≤ (x8_3 : Int) := of_decide_eq_true (by first | (with_reducible assumption) | assumption)
            have q118 : x8_3 < (l1.length : Int) := of_decide_eq_true (by first | (with_reducible assumption) | assumption)
            obtain ⟨ad118, e118, hx118_0, hx118_1, hx118_2, hx118_3⟩ := at_T54 HR1.out x8_3 p118 q118
            cases e118
            replace hx118_0 := (HB.out.cell (World.block_lt_of_cell? w _ hx118_0)).trans hx118_0
            replace hx118_1 := (HB.out.cell (World.block_lt_of_cell? w _ hx118_1)).trans hx118_1
            replace hx118_2 := (HB.out.cell (World.block_lt_of_cell? w _ hx118_2)).trans hx118_2
            replace hx118_3 := (HB.out.cell (World.block_lt_of_cell? w _ hx118_3)).trans hx118_3
            replace p118 := eq_true p118
            replace q118 := eq_true q118
            go_wp2
            repeat (go_quiet (fail); try go_wp2)
            go_ret
            exact ⟨by first | rfl | (simp [errW_none, errW_some] <;> rfl) | (simp [*, errW_none, errW_some] <;> rfl), Sq.w HB.out⟩
           ·rw [if_neg c30] at H
            have c30b0 : decide (((rd_T54 l1 x8_3).f0) < 1) = false := decide_eq_false c30
            clear c30
            replace H := Option.bind_eq_some_iff.mp H
            obtain ⟨t120, A310, H⟩ := H
            replace H : (if t120 = true then (if ((rd_T54 l1 x8_3).f2) < 0 then (some false) else (gimbalref8_May.l3 k3 l1 (wrap64 (x8_3 + 1)))) else (some false)) = some r := H
            have A31 := Aside0.mk A310
            clear A310
            by_cases c32 : t120 = true
            ·subst c32
             have H1 : (if ((rd_T54 l1 x8_3).f2) < 0 then (some false) else (gimbalref8_May.l3 k3 l1 (wrap64 (x8_3 + 1)))) = some r := by rw [if_pos rfl] at H; exact H
             clear H
             have H := H1
             clear H1
             by_cases c33 : ((rd_T54 l1 x8_3).f2) < 0
             ·rw [if_pos c33] at H
              have c33b0 : decide (((rd_T54 l1 x8_3).f2) < 0) = true := decide_eq_true c33
              clear c33
              obtain rfl := Option.some.inj H
              have p118 : 0 ≤ (x8_3 : Int) := of_decide_eq_true (by first | (with_reducible assumption) | assumption)
              have q118 : x8_3 < (l1.length : Int) := of_decide_eq_true (by first | (with_reducible assumption) | assumption)
              obtain ⟨ad118, e118, hx118_0, hx118_1, hx118_2, hx118_3⟩ := at_T54 HR1.out x8_3 p118 q118
              cases e118
              replace hx118_0 := (HB.out.cell (World.block_lt_of_cell? w _ hx118_0)).trans hx118_0
              replace hx118_1 := (HB.out.cell (World.block_lt_of_cell? w _ hx118_1)).trans hx118_1
              replace hx118_2 := (HB.out.cell (World.block_lt_of_cell? w _ hx118_2)).trans hx118_2
              replace hx118_3 := (HB.out.cell (World.block_lt_of_cell? w _ hx118_3)).trans hx118_3
              replace p118 := eq_true p118
              replace q118 := eq_true q118
              have p119 : 0 ≤ (x8_3 : Int) := of_decide_eq_true (by first | (with_reducible assumption) | assumption)
              have q119 : x8_3 < (l1.length : Int) := of_decide_eq_true (by first | (with_reducible assumption) | assumption)
              obtain ⟨ad119, e119, hx119_0, hx119_1, hx119_2, hx119_3⟩ := at_T54 HR1.out x8_3 p119 q119
              obtain rfl : ad118 = ad119 := (by injection e119)
              replace hx119_0 := (HB.out.cell (World.block_lt_of_cell? w _ hx119_0)).trans hx119_0
              replace hx119_1 := (HB.out.cell (World.block_lt_of_cell? w _ hx119_1)).trans hx119_1
              replace hx119_2 := (HB.out.cell (World.block_lt_of_cell? w _ hx119_2)).trans hx119_2
              replace hx119_3 := (HB.out.cell (World.block_lt_of_cell? w _ hx119_3)).trans hx119_3
              replace p119 := eq_true p119
              replace q119 := eq_true q119
              go_wp2_with (first | (go_at_call 28; (with_reducible refine (gimbalref8_in.calls ((rd_T54 l1 x8_3).f1) 1 3 true _ A31.out).mono ?_); rintro e w' ⟨rfl, ⟨nd, rfl⟩⟩; (try first | exact ⟨rfl, _, World.drewN_drewN _ _ _⟩ | exact ⟨rfl, _, Eq.trans (World.drewN_drewN _ _ _) (congrArg (World.drewN _) (Nat.add_assoc _ _ _))⟩); have p121 : 0 ≤ (x8_3 : Int) := of_decide_eq_true (by first | (with_reducible assumption) | assumption); have q121 : x8_3 < (l1.length : Int) := of_decide_eq_true (by first | (with_reducible assumption) | assumption); obtain ⟨ad121, e121, hx121_0, hx121_1, hx121_2, hx121_3⟩ := at_T54 HR1.out x8_3 p121 q121; obtain rfl : ad118 = ad121 := (by injection e121); replace hx121_0 := (HB.out.cell (World.block_lt_of_cell? w _ hx121_0)).trans hx121_0; replace hx121_1 := (HB.out.cell (World.block_lt_of_cell? w _ hx121_1)).trans hx121_1; replace hx121_2 := (HB.out.cell (World.block_lt_of_cell? w _ hx121_2)).trans hx121_2; replace hx121_3 := (HB.out.cell (World.block_lt_of_cell? w _ hx121_3)).trans hx121_3; replace p121 := eq_true p121; replace q121 := eq_true q121))
              repeat (go_quiet (first | (go_at_call 28; (with_reducible refine (gimbalref8_in.calls ((rd_T54 l1 x8_3).f1) 1 3 true _ A31.out).mono ?_); rintro e w' ⟨rfl, ⟨nd, rfl⟩⟩; (try first | exact ⟨rfl, _, World.drewN_drewN _ _ _⟩ | exact ⟨rfl, _, Eq.trans (World.drewN_drewN _ _ _) (congrArg (World.drewN _) (Nat.add_assoc _ _ _))⟩); have p121 : 0 ≤ (x8_3 : Int) := of_decide_eq_true (by first | (with_reducible assumption) | assumption); have q121 : x8_3 < (l1.length : Int) := of_decide_eq_true (by first | (with_reducible assumption) | assumption); obtain ⟨ad121, e121, hx121_0, hx121_1, hx121_2, hx121_3⟩ := at_T54 HR1.out x8_3 p121 q121; obtain rfl : ad118 = ad121 := (by injection e121); replace hx121_0 := (HB.out.cell (World.block_lt_of_cell? w _ hx121_0)).trans hx121_0; replace hx121_1 := (HB.out.cell (World.block_lt_of_cell? w _ hx121_1)).trans hx121_1; replace hx121_2 := (HB.out.cell (World.block_lt_of_cell? w _ hx121_2)).trans hx121_2; replace hx121_3 := (HB.out.cell (World.block_lt_of_cell? w _ hx121_3)).trans hx121_3; replace p121 := eq_true p121; replace q121 := eq_true q121)); try go_wp2_with (first | (go_at_call 28; (with_reducible refine (gimbalref8_in.calls ((rd_T54 l1 x8_3).f1) 1 3 true _ A31.out).mono ?_); rintro e w' ⟨rfl, ⟨nd, rfl⟩⟩; (try first | exact ⟨rfl, _, World.drewN_drewN _ _ _⟩ | exact ⟨rfl, _, Eq.trans (World.drewN_drewN _ _ _) (congrArg (World.drewN _) (Nat.add_assoc _ _ _))⟩); have p121 : 0 ≤ (x8_3 : Int) := of_decide_eq_true (by first | (with_reducible assumption) | assumption); have q121 : x8_3 < (l1.length : Int) := of_decide_eq_true (by first | (with_reducible assumption) | assumption); obtain ⟨ad121, e121, hx121_0, hx121_1, hx121_2, hx121_3⟩ := at_T54 HR1.out x8_3 p121 q121; obtain rfl : ad118 = ad121 := (by injection e121); replace hx121_0 := (HB.out.cell (World.block_lt_of_cell? w _ hx121_0)).trans hx121_0; replace hx121_1 := (HB.out.cell (World.block_lt_of_cell? w _ hx121_1)).trans hx121_1; replace hx121_2 := (HB.out.cell (World.block_lt_of_cell? w _ hx121_2)).trans hx121_2; replace hx121_3 := (HB.out.cell (World.block_lt_of_cell? w _ hx121_3)).trans hx121_3; replace p121 := eq_true p121; replace q121 := eq_true q121)))
              go_ret
              exact ⟨by first | rfl | (simp [errW_none, errW_some] <;> rfl) | (simp [*, errW_none, errW_some] <;> rfl), Sq.w HB.out⟩
             ·rw [if_neg c33] at H
              have c33b0 : decide (((rd_T54 l1 x8_3).f2) < 0) = false := decide_eq_false c33
              clear c33
              have H' := Aside0.mk H
              clear H
              have p118 : 0 ≤ (x8_3 : Int) := of_decide_eq_true (by first | (with_reducible assumption) | assumption)
              have q118 : x8_3 < (l1.length : Int) := of_decide_eq_true (by first | (with_reducible assumption) | assumption)
              obtain ⟨ad118, e118, hx118_0, hx118_1, hx118_2, hx118_3⟩ := at_T54 HR1.out x8_3 p118 q118
              cases e118
              replace hx118_0 := (HB.out.cell (World.block_lt_of_cell? w _ hx118_0)).trans hx118_0
              replace hx118_1 := (HB.out.cell (World.block_lt_of_cell? w _ hx118_1)).trans hx118_1
              replace hx118_2 := (HB.out.cell (World.block_lt_of_cell? w _ hx118_2)).trans hx118_2
              replace hx118_3 := (HB.out.cell (World.block_lt_of_cell? w _ hx118_3)).trans hx118_3
              replace p118 := eq_true p118
              replace q118 := eq_true q118
              have p119 : 0 ≤ (x8_3 : Int) := of_decide_eq_true (by first | (with_reducible assumption) | assumption)
              have q119 : x8_3 < (l1.length : Int) := of_decide_eq_true (by first | (with_reducible assumption) | assumption)
              obtain ⟨ad119, e119, hx119_0, hx119_1, hx119_2, hx119_3⟩ := at_T54 HR1.out x8_3 p119 q119
              obtain rfl : ad118 = ad119 := (by injection e119)
              replace hx119_0 := (HB.out.cell (World.block_lt_of_cell? w _ hx119_0)).trans hx119_0
              replace hx119_1 := (HB.out.cell (World.block_lt_of_cell? w _ hx119_1)).trans hx119_1
              replace hx119_2 := (HB.out.cell (World.block_lt_of_cell? w _ hx119_2)).trans hx119_2
              replace hx119_3 := (HB.out.cell (World.block_lt_of_cell? w _ hx119_3)).trans hx119_3
              replace p119 := eq_true p119
              replace q119 := eq_true q119
              go_wp2_with (first | (go_at_call 28; (with_reducible refine (gimbalref8_in.calls ((rd_T54 l1 x8_3).f1) 1 3 true _ A31.out).mono ?_); rintro e w' ⟨rfl, ⟨nd, rfl⟩⟩; (try first | exact ⟨rfl, _, World.drewN_drewN _ _ _⟩ | exact ⟨rfl, _, Eq.trans (World.drewN_drewN _ _ _) (congrArg (World.drewN _) (Nat.add_assoc _ _ _))⟩); have p121 : 0 ≤ (x8_3 : Int) := of_decide_eq_true (by first | (with_reducible assumption) | assumption); have q121 : x8_3 < (l1.length : Int) := of_decide_eq_true (by first | (with_reducible assumption) | assumption); obtain ⟨ad121, e121, hx121_0, hx121_1, hx121_2, hx121_3⟩ := at_T54 HR1.out x8_3 p121 q121; obtain rfl : ad118 = ad121 := (by injection e121); replace hx121_0 := (HB.out.cell (World.block_lt_of_cell? w _ hx121_0)).trans hx121_0; replace hx121_1 := (HB.out.cell (World.block_lt_of_cell? w _ hx121_1)).trans hx121_1; replace hx121_2 := (HB.out.cell (World.block_lt_of_cell? w _ hx121_2)).trans hx121_2; replace hx121_3 := (HB.out.cell (World.block_lt_of_cell? w _ hx121_3)).trans hx121_3; replace p121 := eq_true p121; replace q121 := eq_true q121))
              repeat (go_quiet (first | (go_at_call 28; (with_reducible refine (gimbalref8_in.calls ((rd_T54 l1 x8_3).f1) 1 3 true _ A31.out).mono ?_); rintro e w' ⟨rfl, ⟨nd, rfl⟩⟩; (try first | exact ⟨rfl, _, World.drewN_drewN _ _ _⟩ | exact ⟨rfl, _, Eq.trans (World.drewN_drewN _ _ _) (congrArg (World.drewN _) (Nat.add_assoc _ _ _))⟩); have p121 : 0 ≤ (x8_3 : Int) := of_decide_eq_true (by first | (with_reducible assumption) | assumption); have q121 : x8_3 < (l1.length : Int) := of_decide_eq_true (by first | (with_reducible assumption) | assumption); obtain ⟨ad121, e121, hx121_0, hx121_1, hx121_2, hx121_3⟩ := at_T54 HR1.out x8_3 p121 q121; obtain rfl : ad118 = ad121 := (by injection e121); replace hx121_0 := (HB.out.cell (World.block_lt_of_cell? w _ hx121_0)).trans hx121_0; replace hx121_1 := (HB.out.cell (World.block_lt_of_cell? w _ hx121_1)).trans hx121_1; replace hx121_2 := (HB.out.cell (World.block_lt_of_cell? w _ hx121_2)).trans hx121_2; replace hx121_3 := (HB.out.cell (World.block_lt_of_cell? w _ hx121_3)).trans hx121_3; replace p121 := eq_true p121; replace q121 := eq_true q121)); try go_wp2_with (first | (go_at_call 28; (with_reducible refine (gimbalref8_in.calls ((rd_T54 l1 x8_3).f1) 1 3 true _ A31.out).mono ?_); rintro e w' ⟨rfl, ⟨nd, rfl⟩⟩; (try first | exact ⟨rfl, _, World.drewN_drewN _ _ _⟩ | exact ⟨rfl, _, Eq.trans (World.drewN_drewN _ _ _) (congrArg (World.drewN _) (Nat.add_assoc _ _ _))⟩); have p121 : 0 ≤ (x8_3 : Int) := of_decide_eq_true (by first | (with_reducible assumption) | assumption); have q121 : x8_3 < (l1.length : Int) := of_decide_eq_true (by first | (with_reducible assumption) | assumption); obtain ⟨ad121, e121, hx121_0, hx121_1, hx121_2, hx121_3⟩ := at_T54 HR1.out x8_3 p121 q121; obtain rfl : ad118 = ad121 := (by injection e121); replace hx121_0 := (HB.out.cell (World.block_lt_of_cell? w _ hx121_0)).trans hx121_0; replace hx121_1 := (HB.out.cell (World.block_lt_of_cell? w _ hx121_1)).trans hx121_1; replace hx121_2 := (HB.out.cell (World.block_lt_of_cell? w _ hx121_2)).trans hx121_2; replace hx121_3 := (HB.out.cell (World.block_lt_of_cell? w _ hx121_3)).trans hx121_3; replace p121 := eq_true p121; replace q121 := eq_true q121)))
              refine Cu.handed k3 (by have := HJ2.out; have := HK2.out; have := HK3.out; omega) (by assumption) ?_ (by kernel_rfl) (by kernel_rfl)
              try dsimp only [Cu.pick, Cu.rep, Cu.nth]
              exact ⟨(wrap64 (x8_3 + 1)), Sq.e, H', ⟨by have := HJ2.out; have := HK2.out; have := HK3.out; omega⟩, ⟨Sq.w HB.out⟩⟩
            ·replace c32 := Bool.eq_false_iff.mpr c32
             subst c32
             have H1 : (some false) = some r := by rw [if_neg (show ¬ (false = true) by decide)] at H; exact H
             clear H
             have H := H1
             clear H1
             obtain rfl := Option.some.inj H
             have p118 : 0 ≤ (x8_3 : Int) := of_decide_eq_true (by first | (with_reducible assumption) | assumption)
             have q118 : x8_3 < (l1.length : Int) := of_decide_eq_true (by first | (with_reducible assumption) | assumption)
             obtain ⟨ad118, e118, hx118_0, hx118_1, hx118_2, hx118_3⟩ := at_T54 HR1.out x8_3 p118 q118
             cases e118
             replace hx118_0 := (HB.out.cell (World.block_lt_of_cell? w _ hx118_0)).trans hx118_0
             replace hx118_1 := (HB.out.cell (World.block_lt_of_cell? w _ hx118_1)).trans hx118_1
             replace hx118_2 := (HB.out.cell (World.block_lt_of_cell? w _ hx118_2)).trans hx118_2
             replace hx118_3 := (HB.out.cell (World.block_lt_of_cell? w _ hx118_3)).trans hx118_3
             replace p118 := eq_true p118
             replace q118 := eq_true q118
             have p119 : 0 ≤ (x8_3 : Int) := of_decide_eq_true (by first | (with_reducible assumption) | assumption)
             have q119 : x8_3 < (l1.length : Int) := of_decide_eq_true (by first | (with_reducible assumption) | assumption)
             obtain ⟨ad119, e119, hx119_0, hx119_1, hx119_2, hx119_3⟩ := at_T54 HR1.out x8_3 p119 q119
             obtain rfl : ad118 = ad119 := (by injection e119)
             replace hx119_0 := (HB.out.cell (World.block_lt_of_cell? w _ hx119_0)).trans hx119_0
             replace hx119_1 := (HB.out.cell (World.block_lt_of_cell? w _ hx119_1)).trans hx119_1
             replace hx119_2 := (HB.out.cell (World.block_lt_of_cell? w _ hx119_2)).trans hx119_2
             replace hx119_3 := (HB.out.cell (World.block_lt_of_cell? w _ hx119_3)).trans hx119_3
             replace p119 := eq_true p119
             replace q119 := eq_true q119
             go_wp2_with (first | (go_at_call 28; (with_reducible refine (gimbalref8_in.calls ((rd_T54 l1 x8_3).f1) 1 3 false _ A31.out).mono ?_); rintro e w' ⟨rfl, ⟨nd, rfl⟩⟩; (try first | exact ⟨rfl, _, World.drewN_drewN _ _ _⟩ | exact ⟨rfl, _, Eq.trans (World.drewN_drewN _ _ _) (congrArg (World.drewN _) (Nat.add_assoc _ _ _))⟩)))
             repeat (go_quiet (first | (go_at_call 28; (with_reducible refine (gimbalref8_in.calls ((rd_T54 l1 x8_3).f1) 1 3 false _ A31.out).mono ?_); rintro e w' ⟨rfl, ⟨nd, rfl⟩⟩; (try first | exact ⟨rfl, _, World.drewN_drewN _ _ _⟩ | exact ⟨rfl, _, Eq.trans (World.drewN_drewN _ _ _) (congrArg (World.drewN _) (Nat.add_assoc _ _ _))⟩))); try go_wp2_with (first | (go_at_call 28; (with_reducible refine (gimbalref8_in.calls ((rd_T54 l1 x8_3).f1) 1 3 false _ A31.out).mono ?_); rintro e w' ⟨rfl, ⟨nd, rfl⟩⟩; (try first | exact ⟨rfl, _, World.drewN_drewN _ _ _⟩ | exact ⟨rfl, _, Eq.trans (World.drewN_drewN _ _ _) (congrArg (World.drewN _) (Nat.add_assoc _ _ _))⟩))))
             go_ret
             exact ⟨by first | rfl | (simp [errW_none, errW_some] <;> rfl) | (simp [*, errW_none, errW_some] <;> rfl), Sq.w HB.out⟩
          ·rw [if_neg c29] at H
           exact absurd H (by simp)
         ·rw [if_neg c28] at H
          have c28b0 : decide (x8_3 < (l1.length : Int)) = false := decide_eq_false c28
          clear c28
          obtain rfl := Option.some.inj H
          go_wp2
          repeat (go_quiet (fail); try go_wp2)
          go_ret
          exact ⟨by first | rfl | (simp [errW_none, errW_some] <;> rfl) | (simp [*, errW_none, errW_some] <;> rfl), Sq.w HB.out⟩
/-! ### gimballaw8_num: function 10 -/
def gimballaw8_num.f (a0 : Int) : Option (Int) := some a0
set_option maxHeartbeats 8000000 in
set_option maxRecDepth 100000 in
theorem gimballaw8_num.calls (a0 : Int) (r : Int) (w : World) (h : gimballaw8_num.f a0 = some r) :
  Calls Try.prog 10 #[.int .i64 a0] w fun e w' => e = .returned (.int .i64 r) ∧ Drawn0 w w' := by
 have H : (some a0) = some r := h
 clear h
 obtain rfl := Option.some.inj H
 go_enter Try.func10, Try.ntmps10
 go_wp2
 go_ret
 exact ⟨by first | rfl | (simp; done) | (simp [*]; done), by repeat (first | exact Drawn0.refl _ | apply Drawn0.step)⟩

/-! ### gimballaw0_Within: function 11 -/
def gimballaw0_Within.f (a0 : Int) (a1 : Int) : Option (Int) := if (IntKind.u64.wrap (a1)) = 0 then (none) else (some (wrap64 (Int.tmod (IntKind.u64.wrap (a0)) (IntKind.u64.wrap (a1)))))
set_option maxHeartbeats 8000000 in
set_option maxRecDepth 100000 in
theorem gimballaw0_Within.calls (a0 : Int) (a1 : Int) (r : Int) (w : World) (h : gimballaw0_Within.f a0 a1 = some r) :
  Calls Try.prog 11 #[.int .i64 a0, .int .i64 a1] w fun e w' => e = .returned (.int .i64 r) ∧ Drawn0 w w' := by
 have H : (if (IntKind.u64.wrap (a1)) = 0 then (none) else (some (wrap64 (Int.tmod (IntKind.u64.wrap (a0)) (IntKind.u64.wrap (a1)))))) = some r := h
 clear h
 by_cases c3 : (IntKind.u64.wrap (a1)) = 0
 ·rw [if_pos c3] at H
  exact absurd H (by simp)
 ·rw [if_neg c3] at H
  have c3b0 : ((IntKind.u64.wrap (a1)) == 0) = false := beq_eq_false_iff_ne.mpr c3
  have c3b1 : ((IntKind.u64.wrap (a1)) != 0) = true := bne_iff_ne.mpr c3
  obtain rfl := Option.some.inj H
  go_enter Try.func11, Try.ntmps11
  go_wp2
  go_ret
  exact ⟨by first | rfl | (simp; done) | (simp [*]; done), by repeat (first | exact Drawn0.refl _ | apply Drawn0.step)⟩

/-! ### gimbalref0_EqBytes: function 13 -/
def gimbalref0_EqBytes.l0 : Nat → List Int → List Int → Int → Option (Bool)
 | 0, _, _, _ => none
 | k + 1, x0, x1, x5 => if x5 < (x0.length : Int) then (if 0 ≤ x5 then (if x5 < (x1.length : Int) then (if (rd x0 x5) = (rd x1 x5) then (gimbalref0_EqBytes.l0 k x0 x1 (wrap64 (x5 + 1))) else (some false)) else (none)) else (none)) else (some true)
def gimbalref0_EqBytes.f (k : Nat) (l0 : List Int) (l1 : List Int) : Option (Bool) := if (l0.length : Int) = (l1.length : Int) then (gimbalref0_EqBytes.l0 k l0 l1 0) else (some false)
theorem gimbalref0_EqBytes.mono_l : ∀ k, (∀ y0 y1 y2, LeO (gimbalref0_EqBytes.l0 k y0 y1 y2) (gimbalref0_EqBytes.l0 (k + 1) y0 y1 y2))
 | 0 => fun _ _ _ r h => by simp [gimbalref0_EqBytes.l0] at h
 | k + 1 => by
  have ih0 := gimbalref0_EqBytes.mono_l k
  ·intro y0 y1 y2
   unfold gimbalref0_EqBytes.l0
   repeat' first
   | (with_reducible exact ih0 _ _ _)
   | (with_reducible exact LeO.refl _)
   | (with_reducible exact LeO.none _)
   | (with_reducible refine LeO.ite ?_ ?_)
   | (with_reducible refine LeO.bind ?_ (fun _ => ?_))
   | exact ih0 _ _ _
   | exact LeO.none _
   | refine LeO.ite ?_ ?_
   | refine LeO.bind ?_ (fun _ => ?_)
theorem gimbalref0_EqBytes.mono : ∀ a0 a1 k, LeO (gimbalref0_EqBytes.f k a0 a1) (gimbalref0_EqBytes.f (k + 1) a0 a1) := by
 intro a0 a1 k
 have ih0 := gimbalref0_EqBytes.mono_l k
 unfold gimbalref0_EqBytes.f
 repeat' first
   | (with_reducible exact ih0 _ _ _)
   | (with_reducible exact LeO.refl _)
   | (with_reducible exact LeO.none _)
   | (with_reducible refine LeO.ite ?_ ?_)
   | (with_reducible refine LeO.bind ?_ (fun _ => ?_))
   | exact ih0 _ _ _
   | exact LeO.none _
   | refine LeO.ite ?_ ?_
   | refine LeO.bind ?_ (fun _ => ?_)
set_option maxHeartbeats 8000000 in
set_option maxRecDepth 100000 in
theorem gimbalref0_EqBytes.calls (k : Nat) (A0 : Option Addr) (c0 : Nat) (l0 : List Int) (A1 : Option Addr) (c1 : Nat) (l1 : List Int) (r : Bool) (w : World) (hr0 : Kd.C (Kd.int .u8) w A0 l0.length l0) (hc0 : l0.length ≤ c0) (hr1 : Kd.C (Kd.int .u8) w A1 l1.length l1) (hc1 : l1.length ≤ c1) (h : gimbalref0_EqBytes.f k l0 l1 = some r) :
  Calls Try.prog 13 #[.slice A0 l0.length c0, .slice A1 l1.length c1] w fun e w' => e = .returned (.bool r) ∧ Drawn0 w w' := by
 have HR0 := Aside0.mk hr0
 have HC0 := Aside0.mk hc0
 clear hr0 hc0
 have HR1 := Aside0.mk hr1
 have HC1 := Aside0.mk hc1
 clear hr1 hc1
 have H : (if (l0.length : Int) = (l1.length : Int) then (gimbalref0_EqBytes.l0 k l0 l1 0) else (some false)) = some r := h
 clear h
 by_cases c3 : (l0.length : Int) = (l1.length : Int)
 ·rw [if_pos c3] at H
  have c3b0 : ((l0.length : Int) == (l1.length : Int)) = true := beq_iff_eq.mpr c3
  have c3b1 : ((l0.length : Int) != (l1.length : Int)) = false := bne_eq_false_iff_eq.mpr c3
  have c3b2 : (l0.length == l1.length) = true := by first | simpa using c3 | (simp at c3 ⊢; omega)
  clear c3
  have H' := Aside0.mk H
  clear H
  go_enter Try.func13, Try.ntmps13
  go_wp2
  repeat (go_quiet (fail); try go_wp2)
  refine Cu.wp_loop (Cu.rep 4 Cu.f (Cu.rep 2 Cu.t (Cu.rep 5 Cu.f (Cu.rep 15 Cu.t [])))) 17 (fun kq us_ w' => ∃ (x5_1 : Int), (Cu.nth us_ 1) = .int .i64 x5_1 ∧ Aside0 (gimbalref0_EqBytes.l0 kq l0 l1 x5_1 = some r) ∧ Aside0 (kq ≤ k) ∧ Drawn0 w w') k ?_ (by kernel_rfl) (by kernel_rfl) ?_
  · try dsimp only [Cu.pick, Cu.rep, Cu.nth]
    exact ⟨(0), Sq.e, H', ⟨Nat.le_refl _⟩, by repeat (first | exact Drawn0.refl _ | apply Drawn0.step)⟩
  ·
   intro gk wr u4 u5 u11 u12 u13 u14 u15 u16 u17 u18 u19 u20 u21 u22 u23 u24 u25
   try dsimp only [Cu.over, Cu.rep, Cu.nth]
   intro hrel _ _ _ _
   clear H'; (try clear c3b0); (try clear c3b1); (try clear c3b2)
   obtain ⟨x5_1, rfl, HA, HK1, ⟨m1, rfl⟩⟩ := hrel
   cases gk with
   | zero => exact absurd HA.out (by simp [gimbalref0_EqBytes.l0])
   | succ k1 =>
    have H := HA.out
    clear HA
    simp only [gimbalref0_EqBytes.l0] at H
    by_cases c4 : x5_1 < (l0.length : Int)
    ·rw [if_pos c4] at H
     have c4b0 : decide (x5_1 < (l0.length : Int)) = true := decide_eq_true c4
     clear c4
     by_cases c5 : 0 ≤ x5_1
     ·rw [if_pos c5] at H
      have c5b0 : decide (0 ≤ x5_1) = true := decide_eq_true c5
      clear c5
      by_cases c6 : x5_1 < (l1.length : Int)
      ·rw [if_pos c6] at H
       have c6b0 : decide (x5_1 < (l1.length : Int)) = true := decide_eq_true c6
       clear c6
       by_cases c7 : (rd l0 x5_1) = (rd l1 x5_1)
       ·rw [if_pos c7] at H
        have c7b0 : ((rd l0 x5_1) == (rd l1 x5_1)) = true := beq_iff_eq.mpr c7
        have c7b1 : ((rd l0 x5_1) != (rd l1 x5_1)) = false := bne_eq_false_iff_eq.mpr c7
        clear c7
        have H' := Aside0.mk H
        clear H
        have p141 : 0 ≤ (x5_1 : Int) := of_decide_eq_true (by first | (with_reducible assumption) | assumption)
        have q141 : x5_1 < (l0.length : Int) := of_decide_eq_true (by first | (with_reducible assumption) | assumption)
        obtain ⟨ad141, e141, hx141_0⟩ := Kd.at_int HR0.out x5_1 p141 q141
        cases e141
        replace p141 := eq_true p141
        replace q141 := eq_true q141
        have p142 : 0 ≤ (x5_1 : Int) := of_decide_eq_true (by first | (with_reducible assumption) | assumption)
        have q142 : x5_1 < (l1.length : Int) := of_decide_eq_true (by first | (with_reducible assumption) | assumption)
        obtain ⟨ad142, e142, hx142_0⟩ := Kd.at_int HR1.out x5_1 p142 q142
        cases e142
        replace p142 := eq_true p142
        replace q142 := eq_true q142
        go_wp2
        repeat (go_quiet (fail); try go_wp2)
        refine Cu.handed k1 (by have := HK1.out; omega) (by assumption) ?_ (by kernel_rfl) (by kernel_rfl)
        try dsimp only [Cu.pick, Cu.rep, Cu.nth]
        exact ⟨(wrap64 (x5_1 + 1)), Sq.e, H', ⟨by have := HK1.out; omega⟩, by repeat (first | exact Drawn0.refl _ | apply Drawn0.step)⟩
       ·rw [if_neg c7] at H
        have c7b0 : ((rd l0 x5_1) == (rd l1 x5_1)) = false := beq_eq_false_iff_ne.mpr c7
        have c7b1 : ((rd l0 x5_1) != (rd l1 x5_1)) = true := bne_iff_ne.mpr c7
        obtain rfl := Option.some.inj H
        have p141 : 0 ≤ (x5_1 : Int) := of_decide_eq_true (by first | (with_reducible assumption) | assumption)
        have q141 : x5_1 < (l0.length : Int) := of_decide_eq_true (by first | (with_reducible assumption) | assumption)
        obtain ⟨ad141, e141, hx141_0⟩ := Kd.at_int HR0.out x5_1 p141 q141
        cases e141
        replace p141 := eq_true p141
        replace q141 := eq_true q141
        have p142 : 0 ≤ (x5_1 : Int) := of_decide_eq_true (by first | (with_reducible assumption) | assumption)
        have q142 : x5_1 < (l1.length : Int) := of_decide_eq_true (by first | (with_reducible assumption) | assumption)
        obtain ⟨ad142, e142, hx142_0⟩ := Kd.at_int HR1.out x5_1 p142 q142
        cases e142
        replace p142 := eq_true p142
        replace q142 := eq_true q142
        go_wp2
        repeat (go_quiet (fail); try go_wp2)
        go_ret
        exact ⟨by first | rfl | (simp; done) | (simp [*]; done), by repeat (first | exact Drawn0.refl _ | apply Drawn0.step)⟩
      ·rw [if_neg c6] at H
       exact absurd H (by simp)
     ·rw [if_neg c5] at H
      exact absurd H (by simp)
    ·rw [if_neg c4] at H
     have c4b0 : decide (x5_1 < (l0.length : Int)) = false := decide_eq_false c4
     clear c4
     obtain rfl := Option.some.inj H
     go_wp2
     repeat (go_quiet (fail); try go_wp2)
     go_ret
     exact ⟨by first | rfl | (simp; done) | (simp [*]; done), by repeat (first | exact Drawn0.refl _ | apply Drawn0.step)⟩
 ·rw [if_neg c3] at H
  have c3b0 : ((l0.length : Int) == (l1.length : Int)) = false := beq_eq_false_iff_ne.mpr c3
  have c3b1 : ((l0.length : Int) != (l1.length : Int)) = true := bne_iff_ne.mpr c3
  have c3b2 : (l0.length == l1.length) = false := by first | simpa using c3 | (simp at c3 ⊢; omega)
  obtain rfl := Option.some.inj H
  go_enter Try.func13, Try.ntmps13
  go_wp2
  repeat (go_quiet (fail); try go_wp2)
  go_ret
  exact ⟨by first | rfl | (simp; done) | (simp [*]; done), by repeat (first | exact Drawn0.refl _ | apply Drawn0.step)⟩

-- NOT PRINTED: function 15 (gimballaw8_wakes)

-- NOT PRINTED: function 50 (api_Raw_Push)

-- NOT PRINTED: function 36 (bus_device_tick)

-- NOT PRINTED: function 16 (bus_Bus_Tick)

/-! ### gimbalref8_MayTx: function 17 -/
def gimbalref8_MayTx.j0 : Nat → Bool → Int → Int → List Int → Int → Option (Bool)
 | 0, _, _, _, _, _ => none
 | k + 1, x12, x147000, x147001, x147002, x147003 => if x12 = true then (some false) else (if (x147002.length : Int) = 0 then ((gimbalref8_in.f x147003 1 128).bind fun t149 => (if t149 = true then (some true) else ((gimbalref8_in.f (x147002.length : Int) 1 8).bind fun t150 => (if t150 = true then (some (x147003 == 0)) else (some false))))) else ((gimbalref8_in.f (x147002.length : Int) 1 8).bind fun t151 => (if t151 = true then (some (x147003 == 0)) else (some false))))
def gimbalref8_MayTx.f (k : Nat) (a0_0 : Int) (a0_1 : Int) (l0_2 : List Int) (a0_3 : Int) : Option (Bool) := (gimbalref8_in.f a0_0 0 127).bind fun t147 => (if t147 = true then ((gimbalref8_in.f a0_1 0 5).bind fun t148 => (gimbalref8_MayTx.j0 k (!t148) a0_0 a0_1 l0_2 a0_3)) else (gimbalref8_MayTx.j0 k true a0_0 a0_1 l0_2 a0_3))
theorem gimbalref8_MayTx.mono_l : ∀ k, (∀ y0 y1 y2 y3 y4, LeO (gimbalref8_MayTx.j0 k y0 y1 y2 y3 y4) (gimbalref8_MayTx.j0 (k + 1) y0 y1 y2 y3 y4))
 | 0 => fun _ _ _ _ _ r h => by simp [gimbalref8_MayTx.j0] at h
 | k + 1 => by
  have ih0 := gimbalref8_MayTx.mono_l k
  ·intro y0 y1 y2 y3 y4
   unfold gimbalref8_MayTx.j0
   repeat' first
   | (with_reducible exact ih0 _ _ _ _ _)
   | (with_reducible exact LeO.refl _)
   | (with_reducible exact LeO.none _)
   | (with_reducible refine LeO.ite ?_ ?_)
   | (with_reducible refine LeO.bind ?_ (fun _ => ?_))
   | exact ih0 _ _ _ _ _
   | exact LeO.none _
   | refine LeO.ite ?_ ?_
   | refine LeO.bind ?_ (fun _ => ?_)
theorem gimbalref8_MayTx.mono : ∀ a0 a1 a2 a3 k, LeO (gimbalref8_MayTx.f k a0 a1 a2 a3) (gimbalref8_MayTx.f (k + 1) a0 a1 a2 a3) := by
 intro a0 a1 a2 a3 k
 have ih0 := gimbalref8_MayTx.mono_l k
 unfold gimbalref8_MayTx.f
 repeat' first
   | (with_reducible exact ih0 _ _ _ _ _)
   | (with_reducible exact LeO.refl _)
   | (with_reducible exact LeO.none _)
   | (with_reducible refine LeO.ite ?_ ?_)
   | (with_reducible refine LeO.bind ?_ (fun _ => ?_))
   | exact ih0 _ _ _ _ _
   | exact LeO.none _
   | refine LeO.ite ?_ ?_
   | refine LeO.bind ?_ (fun _ => ?_)
set_option maxHeartbeats 8000000 in
set_option maxRecDepth 100000 in
theorem gimbalref8_MayTx.calls (k : Nat) (a0_0 : Int) (a0_1 : Int) (A0_2 : Option Addr) (c0_2 : Nat) (l0_2 : List Int) (a0_3 : Int) (r : Bool) (w : World) (hr0_2 : Kd.C (Kd.int .u8) w A0_2 l0_2.length l0_2) (hc0_2 : l0_2.length ≤ c0_2) (h : gimbalref8_MayTx.f k a0_0 a0_1 l0_2 a0_3 = some r) :
  Calls Try.prog 17 #[.agg #[.int .i64 a0_0, .int .i64 a0_1, .slice A0_2 l0_2.length c0_2, .int .i64 a0_3]] w fun e w' => e = .returned (.bool r) ∧ Below w.heap.size w w' := by
 have hu39 := Try.underlying39
 have HR0_2 := Aside0.mk hr0_2
 have HC0_2 := Aside0.mk hc0_2
 clear hr0_2 hc0_2
 have HB := Aside0.mk (Below.refl w.heap.size w)
 have H : ((gimbalref8_in.f a0_0 0 127).bind fun t147 => (if t147 = true then ((gimbalref8_in.f a0_1 0 5).bind fun t148 => (gimbalref8_MayTx.j0 k (!t148) a0_0 a0_1 l0_2 a0_3)) else (gimbalref8_MayTx.j0 k true a0_0 a0_1 l0_2 a0_3))) = some r := h
 clear h
 have HC2 := Aside0.mk H
 clear H
 go_enter Try.func17, Try.ntmps17
 go_upto_region 1 with (first | ((with_reducible refine gate_dst (N := 1) rfl ?_); (try (refine gate_guard (by rfl) ?_; dsimp only)); refine box_event ?hg (N := 1) ?hd (cs := #[.int .i64 a0_0, .int .i64 a0_1, .slice A0_2 l0_2.length c0_2, .int .i64 a0_3]) (t := 39) ?hr ?_; (case hd => rfl); (case hg => rfl); (case hr => first | (go_simp; done) | (go_simp; rfl)); intro gb146 hg w3 hbox hb; have BK146 := Aside0.mk hbox; have GW146 := Sq.ge hg HB; have GE146 := Sq.ge hg HB; replace HB := Sq.sw HB hb; clear hb hbox hg))
 (try simp only [Act.put, List.setIfInBounds_toArray, List.set_cons_zero, List.set_cons_succ])
 refine Cu.wp_cut (Cu.rep 3 Cu.f (Cu.rep 30 Cu.t [])) 30 (fun us_ wc => ∃ (kq : Nat) (x12_1 : Bool), (Cu.nth us_ 9) = .bool x12_1 ∧ Aside0 (gimbalref8_MayTx.j0 kq x12_1 a0_0 a0_1 l0_2 a0_3 = some r) ∧ Aside0 (kq ≤ k) ∧ Aside0 (wc.heap[gb146]? = some (.cells #[.int .i64 a0_0, .int .i64 a0_1, (.slice A0_2 l0_2.length c0_2), .int .i64 a0_3] 39 (0, 0))) ∧ Aside0 (Below w.heap.size w wc)) ?_ ?_
 ·
  intro _ _ _ _
  have H := HC2.out
  clear HC2
  replace H := Option.bind_eq_some_iff.mp H
  obtain ⟨t147, A40, H⟩ := H
  replace H : (if t147 = true then ((gimbalref8_in.f a0_1 0 5).bind fun t148 => (gimbalref8_MayTx.j0 k (!t148) a0_0 a0_1 l0_2 a0_3)) else (gimbalref8_MayTx.j0 k true a0_0 a0_1 l0_2 a0_3)) = some r := H
  have A4 := Aside0.mk A40
  clear A40
  by_cases c5 : t147 = true
  ·subst c5
   have H1 : ((gimbalref8_in.f a0_1 0 5).bind fun t148 => (gimbalref8_MayTx.j0 k (!t148) a0_0 a0_1 l0_2 a0_3)) = some r := by rw [if_pos rfl] at H; exact H
   clear H
   have H := H1
   clear H1
   replace H := Option.bind_eq_some_iff.mp H
   obtain ⟨t148, A60, H⟩ := H
   replace H : (gimbalref8_MayTx.j0 k (!t148) a0_0 a0_1 l0_2 a0_3) = some r := H
   have A6 := Aside0.mk A60
   clear A60
   have H' := Aside0.mk H
   clear H
   obtain ⟨z7_0, z7_1, z7_2, z7_3⟩ := Sq.c4 BK146.out
   obtain ⟨y7_0, y7_1, y7_2, y7_3⟩ := Sq.f4 BK146.out
   go_wp2_with (first | ((with_reducible refine gate_callee (f := 28) rfl ?_); refine goesL_ (some 5) rfl rfl Try.func28 (by kernel_rfl) rfl #[.int .i64 a0_0, .int .i64 0, .int .i64 127] rfl Sq.m ?_; (with_reducible refine (gimbalref8_in.calls a0_0 0 127 true _ A4.out).mono ?_); rintro e w' ⟨rfl, ⟨nd, rfl⟩⟩; refine ⟨_, rfl, ?_⟩) | (go_at_call 28; (with_reducible refine (gimbalref8_in.calls a0_1 0 5 t148 _ A6.out).mono ?_); rintro e w' ⟨rfl, ⟨nd, rfl⟩⟩))
   refine Cu.meet (by assumption) ?_ (by kernel_rfl) (by kernel_rfl)
   try dsimp only [Cu.pick, Cu.rep, Cu.nth]
   exact ⟨_, (!t148), Sq.e, H', ⟨by first | omega | exact Nat.le_refl _⟩, ⟨Sq.b BK146.out⟩, ⟨Sq.w HB.out⟩⟩
  ·replace c5 := Bool.eq_false_iff.mpr c5
   subst c5
   have H1 : (gimbalref8_MayTx.j0 k true a0_0 a0_1 l0_2 a0_3) = some r := by rw [if_neg (show ¬ (false = true) by decide)] at H; exact H
   clear H
   have H := H1
   clear H1
   have H' := Aside0.mk H
   clear H
   obtain ⟨z8_0, z8_1, z8_2, z8_3⟩ := Sq.c4 BK146.out
   obtain ⟨y8_0, y8_1, y8_2, y8_3⟩ := Sq.f4 BK146.out
   go_wp2_with (first | ((with_reducible refine gate_callee (f := 28) rfl ?_); refine goesL_ (some 5) rfl rfl Try.func28 (by kernel_rfl) rfl #[.int .i64 a0_0, .int .i64 0, .int .i64 127] rfl Sq.m ?_; (with_reducible refine (gimbalref8_in.calls a0_0 0 127 false _ A4.out).mono ?_); rintro e w' ⟨rfl, ⟨nd, rfl⟩⟩; refine ⟨_, rfl, ?_⟩))
   refine Cu.meet (by assumption) ?_ (by kernel_rfl) (by kernel_rfl)
   try dsimp only [Cu.pick, Cu.rep, Cu.nth]
   exact ⟨_, (true), Sq.e, H', ⟨by first | omega | exact Nat.le_refl _⟩, ⟨Sq.b BK146.out⟩, ⟨Sq.w HB.out⟩⟩
 ·
  intro wc u3 u4 u5 u6 u7 u8 u9 u10 u11 u12 u13 u14 u15 u16 u17 u18 u19 u20 u21 u22 u23 u24 u25 u26 u27 u28 u29 u30 u31 u32
  try dsimp only [Cu.over, Cu.rep, Cu.nth]
  intro hcut
  clear HC2
  obtain ⟨kq, x12_1, rfl, HA, HJ1, BK146, HB⟩ := hcut
  cases kq with
  | zero => exact absurd HA.out (by simp [gimbalref8_MayTx.j0])
  | succ kj1 =>
   have H := HA.out
   clear HA
   simp only [gimbalref8_MayTx.j0] at H
   by_cases c9 : x12_1 = true
   ·subst c9
    have H1 : (some false) = some r := by rw [if_pos rfl] at H; exact H
    clear H
    have H := H1
    clear H1
    obtain rfl := Option.some.inj H
    go_wp2
    go_ret
    exact ⟨by first | rfl | (simp [errW_none, errW_some] <;> rfl) | (simp [*, errW_none, errW_some] <;> rfl), Sq.w HB.out⟩
   ·replace c9 := Bool.eq_false_iff.mpr c9
    subst c9
    have H1 : (if (l0_2.length : Int) = 0 then ((gimbalref8_in.f a0_3 1 128).bind fun t149 => (if t149 = true then (some true) else ((gimbalref8_in.f (l0_2.length : Int) 1 8).bind fun t150 => (if t150 = true then (some (a0_3 == 0)) else (some false))))) else ((gimbalref8_in.f (l0_2.length : Int) 1 8).bind fun t151 => (if t151 = true then (some (a0_3 == 0)) else (some false)))) = some r := by rw [if_neg (show ¬ (false = true) by decide)] at H; exact H
    clear H
    have H := H1
    clear H1
    by_cases c10 : (l0_2.length : Int) = 0
    ·rw [if_pos c10] at H
     have c10b0 : ((l0_2.length : Int) == 0) = true := beq_iff_eq.mpr c10
     have c10b1 : ((l0_2.length : Int) != 0) = false := bne_eq_false_iff_eq.mpr c10
     clear c10
     replace H := Option.bind_eq_some_iff.mp H
     obtain ⟨t149, A110, H⟩ := H
     replace H : (if t149 = true then (some true) else ((gimbalref8_in.f (l0_2.length : Int) 1 8).bind fun t150 => (if t150 = true then (some (a0_3 == 0)) else (some false)))) = some r := H
     have A11 := Aside0.mk A110
     clear A110
     by_cases c12 : t149 = true
     ·subst c12
      have H1 : (some true) = some r := by rw [if_pos rfl] at H; exact H
      clear H
      have H := H1
      clear H1
      obtain rfl := Option.some.inj H
      obtain ⟨z13_0, z13_1, z13_2, z13_3⟩ := Sq.c4 BK146.out
      obtain ⟨y13_0, y13_1, y13_2, y13_3⟩ := Sq.f4 BK146.out
      go_wp2_with (first | (go_at_call 28; (with_reducible refine (gimbalref8_in.calls a0_3 1 128 true _ A11.out).mono ?_); rintro e w' ⟨rfl, ⟨nd, rfl⟩⟩))
      go_ret
      exact ⟨by first | rfl | (simp [errW_none, errW_some] <;> rfl) | (simp [*, errW_none, errW_some] <;> rfl), Sq.w HB.out⟩
     ·replace c12 := Bool.eq_false_iff.mpr c12
      subst c12
      have H1 : ((gimbalref8_in.f (l0_2.length : Int) 1 8).bind fun t150 => (if t150 = true then (some (a0_3 == 0)) else (some false))) = some r := by rw [if_neg (show ¬ (false = true) by decide)] at H; exact H
      clear H
      have H := H1
      clear H1
      replace H := Option.bind_eq_some_iff.mp H
      obtain ⟨t150, A140, H⟩ := H
      replace H : (if t150 = true then (some (a0_3 == 0)) else (some false)) = some r := H
      have A14 := Aside0.mk A140
      clear A140
      by_cases c15 : t150 = true
      ·subst c15
       have H1 : (some (a0_3 == 0)) = some r := by rw [if_pos rfl] at H; exact H
       clear H
       have H := H1
       clear H1
       obtain rfl := Option.some.inj H
       obtain ⟨z16_0, z16_1, z16_2, z16_3⟩ := Sq.c4 BK146.out
       obtain ⟨y16_0, y16_1, y16_2, y16_3⟩ := Sq.f4 BK146.out
       go_wp2_with (first | (go_at_call 28; (with_reducible refine (gimbalref8_in.calls a0_3 1 128 false _ A11.out).mono ?_); rintro e w' ⟨rfl, ⟨nd, rfl⟩⟩) | (go_at_call 28; (with_reducible refine (gimbalref8_in.calls (l0_2.length : Int) 1 8 true _ A14.out).mono ?_); rintro e w' ⟨rfl, ⟨nd, rfl⟩⟩))
       go_ret
       exact ⟨by first | rfl | (simp [errW_none, errW_some] <;> rfl) | (simp [*, errW_none, errW_some] <;> rfl), Sq.w HB.out⟩
      ·replace c15 := Bool.eq_false_iff.mpr c15
       subst c15
       have H1 : (some false) = some r := by rw [if_neg (show ¬ (false = true) by decide)] at H; exact H
       clear H
       have H := H1
       clear H1
       obtain rfl := Option.some.inj H
       obtain ⟨z17_0, z17_1, z17_2, z17_3⟩ := Sq.c4 BK146.out
       obtain ⟨y17_0, y17_1, y17_2, y17_3⟩ := Sq.f4 BK146.out
       go_wp2_with (first | (go_at_call 28; (with_reducible refine (gimbalref8_in.calls a0_3 1 128 false _ A11.out).mono ?_); rintro e w' ⟨rfl, ⟨nd, rfl⟩⟩) | (go_at_call 28; (with_reducible refine (gimbalref8_in.calls (l0_2.length : Int) 1 8 false _ A14.out).mono ?_); rintro e w' ⟨rfl, ⟨nd, rfl⟩⟩))
       go_ret
       exact ⟨by first | rfl | (simp [errW_none, errW_some] <;> rfl) | (simp [*, errW_none, errW_some] <;> rfl), Sq.w HB.out⟩
    ·rw [if_neg c10] at H
     have c10b0 : ((l0_2.length : Int) == 0) = false := beq_eq_false_iff_ne.mpr c10
     have c10b1 : ((l0_2.length : Int) != 0) = true := bne_iff_ne.mpr c10
     have c10b2 : ¬ (l0_2 = []) := fun h_ => c10 (by rw [h_]; rfl)
     replace H := Option.bind_eq_some_iff.mp H
     obtain ⟨t151, A180, H⟩ := H
     replace H : (if t151 = true then (some (a0_3 == 0)) else (some false)) = some r := H
     have A18 := Aside0.mk A180
     clear A180
     by_cases c19 : t151 = true
     ·subst c19
      have H1 : (some (a0_3 == 0)) = some r := by rw [if_pos rfl] at H; exact H
      clear H
      have H := H1
      clear H1
      obtain rfl := Option.some.inj H
      obtain ⟨z20_0, z20_1, z20_2, z20_3⟩ := Sq.c4 BK146.out
      obtain ⟨y20_0, y20_1, y20_2, y20_3⟩ := Sq.f4 BK146.out
      go_wp2_with (first | (go_at_call 28; (with_reducible refine (gimbalref8_in.calls (l0_2.length : Int) 1 8 true _ A18.out).mono ?_); rintro e w' ⟨rfl, ⟨nd, rfl⟩⟩))
      go_ret
      exact ⟨by first | rfl | (simp [errW_none, errW_some] <;> rfl) | (simp [*, errW_none, errW_some] <;> rfl), Sq.w HB.out⟩
     ·replace c19 := Bool.eq_false_iff.mpr c19
      subst c19
      have H1 : (some false) = some r := by rw [if_neg (show ¬ (false = true) by decide)] at H; exact H
      clear H
      have H := H1
      clear H1
      obtain rfl := Option.some.inj H
      obtain ⟨z21_0, z21_1, z21_2, z21_3⟩ := Sq.c4 BK146.out
      obtain ⟨y21_0, y21_1, y21_2, y21_3⟩ := Sq.f4 BK146.out
      go_wp2_with (first | (go_at_call 28; (with_reducible refine (gimbalref8_in.calls (l0_2.length : Int) 1 8 false _ A18.out).mono ?_); rintro e w' ⟨rfl, ⟨nd, rfl⟩⟩))
      go_ret
      exact ⟨by first | rfl | (simp [errW_none, errW_some] <;> rfl) | (simp [*, errW_none, errW_some] <;> rfl), Sq.w HB.out⟩

/-! ### gimbalref8_Check: function 37 -/
def gimbalref8_Check.l0 : Nat → List Int → Int → Int → Option (Int)
 | 0, _, _, _ => none
 | k + 1, x0, x3, x4 => if x4 < 7 then (if 0 ≤ x4 then (if x4 < (x0.length : Int) then (gimbalref8_Check.l0 k x0 (Go.bits .xor .u8 x3 (rd x0 x4)) (wrap64 (x4 + 1))) else (none)) else (none)) else (some x3)
def gimbalref8_Check.f (k : Nat) (l0 : List Int) : Option (Int) := gimbalref8_Check.l0 k l0 90 0
theorem gimbalref8_Check.mono_l : ∀ k, (∀ y0 y1 y2, LeO (gimbalref8_Check.l0 k y0 y1 y2) (gimbalref8_Check.l0 (k + 1) y0 y1 y2))
 | 0 => fun _ _ _ r h => by simp [gimbalref8_Check.l0] at h
 | k + 1 => by
  have ih0 := gimbalref8_Check.mono_l k
  ·intro y0 y1 y2
   unfold gimbalref8_Check.l0
   repeat' first
   | (with_reducible exact ih0 _ _ _)
   | (with_reducible exact LeO.refl _)
   | (with_reducible exact LeO.none _)
   | (with_reducible refine LeO.ite ?_ ?_)
   | (with_reducible refine LeO.bind ?_ (fun _ => ?_))
   | exact ih0 _ _ _
   | exact LeO.none _
   | refine LeO.ite ?_ ?_
   | refine LeO.bind ?_ (fun _ => ?_)
theorem gimbalref8_Check.mono : ∀ a0 k, LeO (gimbalref8_Check.f k a0) (gimbalref8_Check.f (k + 1) a0) := by
 intro a0 k
 have ih0 := gimbalref8_Check.mono_l k
 unfold gimbalref8_Check.f
 repeat' first
   | (with_reducible exact ih0 _ _ _)
   | (with_reducible exact LeO.refl _)
   | (with_reducible exact LeO.none _)
   | (with_reducible refine LeO.ite ?_ ?_)
   | (with_reducible refine LeO.bind ?_ (fun _ => ?_))
   | exact ih0 _ _ _
   | exact LeO.none _
   | refine LeO.ite ?_ ?_
   | refine LeO.bind ?_ (fun _ => ?_)
set_option maxHeartbeats 8000000 in
set_option maxRecDepth 100000 in
theorem gimbalref8_Check.calls (k : Nat) (A0 : Option Addr) (c0 : Nat) (l0 : List Int) (r : Int) (w : World) (hr0 : Kd.C (Kd.int .u8) w A0 l0.length l0) (hc0 : l0.length ≤ c0) (h : gimbalref8_Check.f k l0 = some r) :
  Calls Try.prog 37 #[.slice A0 l0.length c0] w fun e w' => e = .returned (.int .u8 r) ∧ Drawn0 w w' := by
 have HR0 := Aside0.mk hr0
 have HC0 := Aside0.mk hc0
 clear hr0 hc0
 have H : (gimbalref8_Check.l0 k l0 90 0) = some r := h
 clear h
 have H' := Aside0.mk H
 clear H
 go_enter Try.func37, Try.ntmps37
 go_wp2
 refine Cu.wp_loop (Cu.rep 3 Cu.f (Cu.rep 12 Cu.t (Cu.rep 1 Cu.f []))) 12 (fun kq us_ w' => ∃ (x3_1 : Int) (x4_1 : Int), (Cu.nth us_ 0) = .int .u8 x3_1 ∧ (Cu.nth us_ 1) = .int .i64 x4_1 ∧ Aside0 (gimbalref8_Check.l0 kq l0 x3_1 x4_1 = some r) ∧ Aside0 (kq ≤ k) ∧ Drawn0 w w') k ?_ (by kernel_rfl) (by kernel_rfl) ?_
 · try dsimp only [Cu.pick, Cu.rep, Cu.nth]
   exact ⟨(90), (0), Sq.e, Sq.e, H', ⟨Nat.le_refl _⟩, by repeat (first | exact Drawn0.refl _ | apply Drawn0.step)⟩
 ·
  intro gk wr u3 u4 u5 u6 u7 u8 u9 u10 u11 u12 u13 u14
  try dsimp only [Cu.over, Cu.rep, Cu.nth]
  intro hrel _ _ _ _
  clear H'
  obtain ⟨x3_1, x4_1, rfl, rfl, HA, HK1, ⟨m1, rfl⟩⟩ := hrel
  cases gk with
  | zero => exact absurd HA.out (by simp [gimbalref8_Check.l0])
  | succ k1 =>
   have H := HA.out
   clear HA
   simp only [gimbalref8_Check.l0] at H
   by_cases c2 : x4_1 < 7
   ·rw [if_pos c2] at H
    have c2b0 : decide (x4_1 < 7) = true := decide_eq_true c2
    clear c2
    by_cases c3 : 0 ≤ x4_1
    ·rw [if_pos c3] at H
     have c3b0 : decide (0 ≤ x4_1) = true := decide_eq_true c3
     clear c3
     by_cases c4 : x4_1 < (l0.length : Int)
     ·rw [if_pos c4] at H
      have c4b0 : decide (x4_1 < (l0.length : Int)) = true := decide_eq_true c4
      clear c4
      have H' := Aside0.mk H
      clear H
      have p146 : 0 ≤ (x4_1 : Int) := of_decide_eq_true (by first | (with_reducible assumption) | assumption)
      have q146 : x4_1 < (l0.length : Int) := of_decide_eq_true (by first | (with_reducible assumption) | assumption)
      obtain ⟨ad146, e146, hx146_0⟩ := Kd.at_int HR0.out x4_1 p146 q146
      cases e146
      replace p146 := eq_true p146
      replace q146 := eq_true q146
      go_wp2
      refine Cu.handed k1 (by have := HK1.out; omega) (by assumption) ?_ (by kernel_rfl) (by kernel_rfl)
      try dsimp only [Cu.pick, Cu.rep, Cu.nth]
      exact ⟨(Go.bits .xor .u8 x3_1 (rd l0 x4_1)), (wrap64 (x4_1 + 1)), Sq.e, Sq.e, H', ⟨by have := HK1.out; omega⟩, by repeat (first | exact Drawn0.refl _ | apply Drawn0.step)⟩
     ·rw [if_neg c4] at H
      exact absurd H (by simp)
    ·rw [if_neg c3] at H
     exact absurd H (by simp)
   ·rw [if_neg c2] at H
    have c2b0 : decide (x4_1 < 7) = false := decide_eq_false c2
    clear c2
    obtain rfl := Option.some.inj H
    go_wp2
    go_ret
    exact ⟨by first | rfl | (simp; done) | (simp [*]; done), by repeat (first | exact Drawn0.refl _ | apply Drawn0.step)⟩

/-! ### gimbalref8_Bytes: function 19 -/
def gimbalref8_Bytes.f (k : Nat) (a0_0 : Int) (a0_1 : Int) (a0_2 : Int) (a0_3 : Int) : Option (List Int) := (some (([(a0_0 / 256) % 256, (a0_0) % 256, (a0_1 / 256) % 256, (a0_1) % 256, (a0_2 / 256) % 256, (a0_2) % 256, (a0_3) % 256] : List Int) : List Int)).bind fun y148 => ((gimbalref8_Check.f k y148).bind fun t151 => (if y148.length < 140737488355328 then (some (y148 ++ [t151])) else (none)))
theorem gimbalref8_Bytes.mono : ∀ a0 a1 a2 a3 k, LeO (gimbalref8_Bytes.f k a0 a1 a2 a3) (gimbalref8_Bytes.f (k + 1) a0 a1 a2 a3) := by
 intro a0 a1 a2 a3 k
 unfold gimbalref8_Bytes.f
 repeat' first
   | (with_reducible exact gimbalref8_Check.mono _ _)
   | (with_reducible exact LeO.refl _)
   | (with_reducible exact LeO.none _)
   | (with_reducible refine LeO.ite ?_ ?_)
   | (with_reducible refine LeO.bind ?_ (fun _ => ?_))
   | exact gimbalref8_Check.mono _ _
   | exact LeO.none _
   | refine LeO.ite ?_ ?_
   | refine LeO.bind ?_ (fun _ => ?_)
set_option maxHeartbeats 8000000 in
set_option maxRecDepth 100000 in
theorem gimbalref8_Bytes.calls (k : Nat) (a0_0 : Int) (a0_1 : Int) (a0_2 : Int) (a0_3 : Int) (r : List Int) (w : World) (h : gimbalref8_Bytes.f k a0_0 a0_1 a0_2 a0_3 = some r) :
  Calls Try.prog 19 #[.agg #[.int .i64 a0_0, .int .i64 a0_1, .int .i64 a0_2, .int .i64 a0_3]] w fun e w' => ∃ v0_ : Value, e = .returned (v0_) ∧ Kd.R (Kd.int .u8) 5 w' w.heap.size (fun _ => True) v0_ r ∧ Below w.heap.size w w' := by
 have hu60 := Try.underlying60
 have HB := Aside0.mk (Below.refl w.heap.size w)
 have H : ((some (([(a0_0 / 256) % 256, (a0_0) % 256, (a0_1 / 256) % 256, (a0_1) % 256, (a0_2 / 256) % 256, (a0_2) % 256, (a0_3) % 256] : List Int) : List Int)).bind fun y148 => ((gimbalref8_Check.f k y148).bind fun t151 => (if y148.length < 140737488355328 then (some (y148 ++ [t151])) else (none)))) = some r := h
 clear h
 obtain ⟨y148, hy148⟩ : ∃ y_ : List Int, y_ = (([(a0_0 / 256) % 256, (a0_0) % 256, (a0_1 / 256) % 256, (a0_1) % 256, (a0_2 / 256) % 256, (a0_2) % 256, (a0_3) % 256] : List Int)) := ⟨_, rfl⟩
 replace H : ((gimbalref8_Check.f k y148).bind fun t151 => (if y148.length < 140737488355328 then (some (y148 ++ [t151])) else (none))) = some r := by first | (rw [hy148]; with_reducible exact H) | (have H2_ := (Option.bind_some _ _).symm.trans H; rw [hy148]; with_reducible exact H2_) | (have H2_ := (Option.bind_some _ _).symm.trans H; with_reducible exact H2_) | with_reducible exact H | (rw [hy148]; exact H) | exact H
 have Ny148 := Aside0.mk hy148
 clear hy148
 replace H := Option.bind_eq_some_iff.mp H
 obtain ⟨t151, A20, H⟩ := H
 replace H : (if y148.length < 140737488355328 then (some (y148 ++ [t151])) else (none)) = some r := H
 have A2 := Aside0.mk A20
 clear A20
 by_cases c3 : y148.length < 140737488355328
 ·rw [if_pos c3] at H
  have LMc3 := Aside0.mk c3
  clear c3
  obtain ⟨y152, hy152⟩ : ∃ y_ : List Int, y_ = (y148 ++ [t151]) := ⟨_, rfl⟩
  replace H : (some y152) = some r := by first | (rw [hy152]; with_reducible exact H) | (have H2_ := (Option.bind_some _ _).symm.trans H; rw [hy152]; with_reducible exact H2_) | (have H2_ := (Option.bind_some _ _).symm.trans H; with_reducible exact H2_) | with_reducible exact H | (rw [hy152]; exact H) | exact H
  have Ny152 := Aside0.mk hy152
  clear hy152
  obtain rfl := Option.some.inj H
  go_enter Try.func19, Try.ntmps19
  go_wp2_with (first | ((with_reducible refine gate_dst (N := 1) rfl ?_); refine box_event ?hg (N := 1) ?hd (cs := #[.int .i64 a0_0, .int .i64 a0_1, .int .i64 a0_2, .int .i64 a0_3]) (t := 60) ?hr ?_; (case hd => rfl); (case hg => rfl); (case hr => first | (go_simp; done) | (go_simp; rfl)); intro gb147 hg w4 hbox hb; have BK147 := Aside0.mk hbox; have GW147 := Sq.ge hg HB; have GE147 := Sq.ge hg HB; replace HB := Sq.sw HB hb; clear hb hbox hg; obtain ⟨z5_0, z5_1, z5_2, z5_3⟩ := Sq.c4 BK147.out; obtain ⟨y5_0, y5_1, y5_2, y5_3⟩ := Sq.f4 BK147.out) | ((with_reducible refine gate_dst (N := 28) rfl ?_); refine Kd.R_lit (Kd.int .u8) _ 5 ?hg (N := 28) ?hd (xs := ([(a0_0 / 256) % 256, (a0_0) % 256, (a0_1 / 256) % 256, (a0_1) % 256, (a0_2 / 256) % 256, (a0_2) % 256, (a0_3) % 256] : List Int)) (inner := [.int .u8 ((a0_0 / 256) % 256), .int .u8 ((a0_0) % 256), .int .u8 ((a0_1 / 256) % 256), .int .u8 ((a0_1) % 256), .int .u8 ((a0_2 / 256) % 256), .int .u8 ((a0_2) % 256), .int .u8 ((a0_3) % 256)]) (ok := fun _ => True) (okp := fun _ => True) ?hr ?hp (fun _ hk => hk) trivial (Below.refl _ _) (Nat.le_refl _) (by simp) ?_; (case hd => rfl); (case hg => rfl); (case hr => first | (go_simp; done) | (go_simp; rfl)); (case hp => exact (Reps.one (show Kd.M (Kd.int .u8) _ _ _ ((a0_0 / 256) % 256) [.int .u8 ((a0_0 / 256) % 256)] from rfl) (Reps.one (show Kd.M (Kd.int .u8) _ _ _ ((a0_0) % 256) [.int .u8 ((a0_0) % 256)] from rfl) (Reps.one (show Kd.M (Kd.int .u8) _ _ _ ((a0_1 / 256) % 256) [.int .u8 ((a0_1 / 256) % 256)] from rfl) (Reps.one (show Kd.M (Kd.int .u8) _ _ _ ((a0_1) % 256) [.int .u8 ((a0_1) % 256)] from rfl) (Reps.one (show Kd.M (Kd.int .u8) _ _ _ ((a0_2 / 256) % 256) [.int .u8 ((a0_2 / 256) % 256)] from rfl) (Reps.one (show Kd.M (Kd.int .u8) _ _ _ ((a0_2) % 256) [.int .u8 ((a0_2) % 256)] from rfl) (Reps.one (show Kd.M (Kd.int .u8) _ _ _ ((a0_3) % 256) [.int .u8 ((a0_3) % 256)] from rfl) (Reps.none _ _))))))))); intro v149 w6 ho7 hb hg_ hnew_; clear hg_ hnew_; (first | rw [← Ny148.out] at ho7 | (simp only [Int.reduceToNat] at ho7; rw [← Ny148.out] at ho7)); have HO150 := Aside0.mk (Kd.R_lower ho7 (below_size (Sq.w HB.out))); replace BK147 := Sq.sb BK147 hb; replace HB := Sq.sw HB hb; clear hb ho7; obtain ⟨Ao8, co8, eo8⟩ := Kd.R_slice HO150.out; subst eo8) | ((with_reducible refine gate_callee (f := 37) rfl ?_); refine goesL_ (some 31) rfl rfl Try.func37 (by kernel_rfl) rfl #[.slice Ao8 y148.length co8] rfl Sq.m ?_; (with_reducible refine (gimbalref8_Check.calls k _ _ y148 t151 _ ?side1 ?side2 A2.out).mono ?_); (case side1 => repeat (first | exact (Kd.R_reads' HO150.out).2.2 | (with_reducible refine Kd.C_alloc ?_ _) | (with_reducible refine Kd.C_drewN ?_ _) | (with_reducible refine Kd.C_drew ?_))); (case side2 => exact (Kd.R_reads' HO150.out).2.1); rintro e w' ⟨rfl, ⟨nd, rfl⟩⟩; refine ⟨_, rfl, ?_⟩) | ((with_reducible refine gate_builtin (b := .append) (xs := #[.tmp 29, .tmp 32]) rfl ?_); at_builtin; refine Kd.R_append (Kd.int .u8) (w0 := w) w.heap.size rfl (.tmp 29) (.tmp 32) 37 5 (.int .u8 0) 1 rfl Try.underlying37 info5 rfl (by decide) (by omega) (.slice Ao8 y148.length co8) y148 t151 [_] (fun _ => True) (fun _ => False) rfl rfl ?aP (fun _ hk => hk.elim) ?aF ?aO ?aB ?aS ?aL ?_; (case aP => first | exact rfl | (show [_] = [_]; congr 2; omega) | simp); (case aB => exact (Sq.w HB.out)); (case aF => exact (fun _ _ => trivial)); (case aO => exact (Sq.rR HO150.out)); (case aS => exact (below_size (Sq.w HB.out))); (case aL => have := LMc3.out; omega); intro v153 w9 ho hb hg hat; rw [← Ny152.out] at ho; have HO154 := Aside0.mk (ho); replace BK147 := Aside0.mk (blk_grown (g := gb147) (o := .cells #[.int .i64 a0_0, .int .i64 a0_1, .int .i64 a0_2, .int .i64 a0_3] 60 (0, 0)) (Sq.b BK147.out) hg (Kd.R_ne HO150.out BK147.out (by decide))); replace HB := Aside0.mk (hb); clear HO150; clear ho hb hg hat))
  go_ret
  exact ⟨_, by first | rfl | (simp [errW_none, errW_some] <;> rfl) | (simp [*, errW_none, errW_some] <;> rfl), by (with_reducible repeat (first | apply Kd.R_alloc | apply Kd.R_drewN | apply Kd.R_drew)); exact HO154.out, Sq.w HB.out⟩
 ·rw [if_neg c3] at H
  exact absurd H (by simp)

-- NOT PRINTED: function 5 (gimballaw8_BusSamples)
/-! ### gimbalref0_EqAnswer: function 18 -/
def gimbalref0_EqAnswer.f (k : Nat) (a0_0 : Int) (l0_1 : List Int) (a1_0 : Int) (l1_1 : List Int) : Option (Bool) := if a0_0 = a1_0 then ((gimbalref0_EqBytes.f k l0_1 l1_1).bind fun t154 => (some t154)) else (some false)
theorem gimbalref0_EqAnswer.mono : ∀ a0 a1 a2 a3 k, LeO (gimbalref0_EqAnswer.f k a0 a1 a2 a3) (gimbalref0_EqAnswer.f (k + 1) a0 a1 a2 a3) := by
 intro a0 a1 a2 a3 k
 unfold gimbalref0_EqAnswer.f
 repeat' first
   | (with_reducible exact gimbalref0_EqBytes.mono _ _ _)
   | (with_reducible exact LeO.refl _)
   | (with_reducible exact LeO.none _)
   | (with_reducible refine LeO.ite ?_ ?_)
   | (with_reducible refine LeO.bind ?_ (fun _ => ?_))
   | exact gimbalref0_EqBytes.mono _ _ _
   | exact LeO.none _
   | refine LeO.ite ?_ ?_
   | refine LeO.bind ?_ (fun _ => ?_)
set_option maxHeartbeats 8000000 in
set_option maxRecDepth 100000 in
theorem gimbalref0_EqAnswer.calls (k : Nat) (a0_0 : Int) (A0_1 : Option Addr) (c0_1 : Nat) (l0_1 : List Int) (a1_0 : Int) (A1_1 : Option Addr) (c1_1 : Nat) (l1_1 : List Int) (r : Bool) (w : World) (hr0_1 : Kd.C (Kd.int .u8) w A0_1 l0_1.length l0_1) (hc0_1 : l0_1.length ≤ c0_1) (hr1_1 : Kd.C (Kd.int .u8) w A1_1 l1_1.length l1_1) (hc1_1 : l1_1.length ≤ c1_1) (h : gimbalref0_EqAnswer.f k a0_0 l0_1 a1_0 l1_1 = some r) :
  Calls Try.prog 18 #[.agg #[.int .i64 a0_0, .slice A0_1 l0_1.length c0_1], .agg #[.int .i64 a1_0, .slice A1_1 l1_1.length c1_1]] w fun e w' => e = .returned (.bool r) ∧ Below w.heap.size w w' := by
 have hu43 := Try.underlying43
 have HR0_1 := Aside0.mk hr0_1
 have HC0_1 := Aside0.mk hc0_1
 clear hr0_1 hc0_1
 have HR1_1 := Aside0.mk hr1_1
 have HC1_1 := Aside0.mk hc1_1
 clear hr1_1 hc1_1
 have HB := Aside0.mk (Below.refl w.heap.size w)
 have H : (if a0_0 = a1_0 then ((gimbalref0_EqBytes.f k l0_1 l1_1).bind fun t154 => (some t154)) else (some false)) = some r := h
 clear h
 by_cases c3 : a0_0 = a1_0
 ·rw [if_pos c3] at H
  have c3b0 : (a0_0 == a1_0) = true := beq_iff_eq.mpr c3
  have c3b1 : (a0_0 != a1_0) = false := bne_eq_false_iff_eq.mpr c3
  clear c3
  replace H := Option.bind_eq_some_iff.mp H
  obtain ⟨t154, A40, H⟩ := H
  replace H : (some t154) = some r := H
  have A4 := Aside0.mk A40
  clear A40
  obtain rfl := Option.some.inj H
  go_enter Try.func18, Try.ntmps18
  go_wp2_with (first | ((with_reducible refine gate_dst (N := 2) rfl ?_); refine box_event ?hg (N := 2) ?hd (cs := #[.int .i64 a0_0, .slice A0_1 l0_1.length c0_1]) (t := 43) ?hr ?_; (case hd => rfl); (case hg => rfl); (case hr => first | (go_simp; done) | (go_simp; rfl)); intro gb152 hg w5 hbox hb; have BK152 := Aside0.mk hbox; have GW152 := Sq.ge hg HB; have GE152 := Sq.ge hg HB; replace HB := Sq.sw HB hb; clear hb hbox hg) | ((with_reducible refine gate_dst (N := 3) rfl ?_); refine box_event ?hg (N := 3) ?hd (cs := #[.int .i64 a1_0, .slice A1_1 l1_1.length c1_1]) (t := 43) ?hr ?_; (case hd => rfl); (case hg => rfl); (case hr => first | (go_simp; done) | (go_simp; rfl)); intro gb153 hg w6 hbox hb; have BK153 := Aside0.mk hbox; have GW153 := Sq.ge hg HB; have GE153 := Sq.ge hg HB; obtain ⟨NB152_153, NB153_152⟩ := Sq.np hg BK152; replace BK152 := Sq.sb BK152 hb; replace HB := Sq.sw HB hb; clear hb hbox hg; have b7 := NB152_153.out; have d7 := NB153_152.out; obtain ⟨z8_0, z8_1⟩ := Sq.c2 BK152.out; obtain ⟨y8_0, y8_1⟩ := Sq.f2 BK152.out; obtain ⟨z9_0, z9_1⟩ := Sq.c2 BK153.out; obtain ⟨y9_0, y9_1⟩ := Sq.f2 BK153.out) | (go_at_call 13; (with_reducible refine (gimbalref0_EqBytes.calls k _ _ l0_1 _ _ l1_1 t154 _ ?side1 ?side2 ?side3 ?side4 A4.out).mono ?_); (case side1 => repeat (first | exact (Kd.C_below HR0_1.out HB.out) | (with_reducible refine Kd.C_alloc ?_ _) | (with_reducible refine Kd.C_drewN ?_ _) | (with_reducible refine Kd.C_drew ?_))); (case side2 => exact HC0_1.out); (case side3 => repeat (first | exact (Kd.C_below HR1_1.out HB.out) | (with_reducible refine Kd.C_alloc ?_ _) | (with_reducible refine Kd.C_drewN ?_ _) | (with_reducible refine Kd.C_drew ?_))); (case side4 => exact HC1_1.out); rintro e w' ⟨rfl, ⟨nd, rfl⟩⟩))
  go_ret
  exact ⟨by first | rfl | (simp [errW_none, errW_some] <;> rfl) | (simp [*, errW_none, errW_some] <;> rfl), Sq.w HB.out⟩
 ·rw [if_neg c3] at H
  have c3b0 : (a0_0 == a1_0) = false := beq_eq_false_iff_ne.mpr c3
  have c3b1 : (a0_0 != a1_0) = true := bne_iff_ne.mpr c3
  obtain rfl := Option.some.inj H
  go_enter Try.func18, Try.ntmps18
  go_wp2_with (first | ((with_reducible refine gate_dst (N := 2) rfl ?_); refine box_event ?hg (N := 2) ?hd (cs := #[.int .i64 a0_0, .slice A0_1 l0_1.length c0_1]) (t := 43) ?hr ?_; (case hd => rfl); (case hg => rfl); (case hr => first | (go_simp; done) | (go_simp; rfl)); intro gb152 hg w10 hbox hb; have BK152 := Aside0.mk hbox; have GW152 := Sq.ge hg HB; have GE152 := Sq.ge hg HB; replace HB := Sq.sw HB hb; clear hb hbox hg) | ((with_reducible refine gate_dst (N := 3) rfl ?_); refine box_event ?hg (N := 3) ?hd (cs := #[.int .i64 a1_0, .slice A1_1 l1_1.length c1_1]) (t := 43) ?hr ?_; (case hd => rfl); (case hg => rfl); (case hr => first | (go_simp; done) | (go_simp; rfl)); intro gb153 hg w11 hbox hb; have BK153 := Aside0.mk hbox; have GW153 := Sq.ge hg HB; have GE153 := Sq.ge hg HB; obtain ⟨NB152_153, NB153_152⟩ := Sq.np hg BK152; replace BK152 := Sq.sb BK152 hb; replace HB := Sq.sw HB hb; clear hb hbox hg; have b12 := NB152_153.out; have d12 := NB153_152.out; obtain ⟨z13_0, z13_1⟩ := Sq.c2 BK152.out; obtain ⟨y13_0, y13_1⟩ := Sq.f2 BK152.out; obtain ⟨z14_0, z14_1⟩ := Sq.c2 BK153.out; obtain ⟨y14_0, y14_1⟩ := Sq.f2 BK153.out))
  go_ret
  exact ⟨by first | rfl | (simp [errW_none, errW_some] <;> rfl) | (simp [*, errW_none, errW_some] <;> rfl), Sq.w HB.out⟩

-- NOT PRINTED: function 4 (gimballaw8_BusFaults)
end Go.Proofs.Ytpolofolibabiaa.Bs
