/-
  BusRegisters: for every input the law's call returns true, and each argument reads behind it as it read before.
  No conditions.
-/
import Derived.Test.YtpolofolibabiaaRows
import Derived.Test.YtpolofolibabiaaPBusRegistersx4
import Derived.Test.YtpolofolibabiaaSpecBusRegisters
import Derived.Test.YtpolofolibabiaaPureBusRegisters
import Derived.Test.YtpolofolibabiaaOpens
import Derived.WalkKit
import Derived.ProofKit
import Derived.OpenShut
import Derived.ShutString
import Derived.ChangeOld
import Derived.Below
import Derived.SizedLaws
import Derived.Carry
import Derived.JoinedCond
namespace Go.Proofs.Ytpolofolibabiaa.busRegisters
open Go.ChangeShapes Go.WideShapes Go.ChangeAt Go.RowKit Go.Proofs.Ytpolofolibabiaa.Op
open Go.Proofs.Ytpolofolibabiaa.PBusRegisters Go.Proofs.YtpolofolibabiaaW.PrintWords
open Go.ChangeMaps (open_string shut_string)
theorem own : ownKnob Try.prog.godebug = none := by kernel_rfl
theorem laidOut : laidOutB Try.prog = true := by kernel_rfl
theorem opens60 : Opens Try.prog 60 k60 wf60 := Opens.iso (g := fun p => ⟨p.1, p.2.1, p.2.2.1, p.2.2.2⟩) (fun _ => rfl) (Opens.struct Try.underlying60 (by kernel_rfl) (OpensF.cons rfl (Opens.int (P := Try.prog) (t := 3) (by kernel_rfl) (by kernel_rfl)) (OpensF.cons rfl (Opens.int (P := Try.prog) (t := 3) (by kernel_rfl) (by kernel_rfl)) (OpensF.cons rfl (Opens.int (P := Try.prog) (t := 3) (by kernel_rfl) (by kernel_rfl)) (OpensF.one rfl (Opens.int (P := Try.prog) (t := 3) (by kernel_rfl) (by kernel_rfl)))))))
theorem opens35 : Opens Try.prog 35 k35 wf35 := Opens.iso (g := fun p => ⟨p.1, p.2.1, p.2.2⟩) (fun _ => rfl) (Opens.struct Try.underlying35 (by kernel_rfl) (OpensF.cons rfl (Opens.int (P := Try.prog) (t := 3) (by kernel_rfl) (by kernel_rfl)) (OpensF.cons rfl (Opens.int (P := Try.prog) (t := 3) (by kernel_rfl) (by kernel_rfl)) (OpensF.one rfl (Opens.slice (P := Try.prog) (t := 33) (e := 60) (by kernel_rfl) (by kernel_rfl) opens60)))))
theorem opens54 : Opens Try.prog 54 k54 wf54 := Opens.iso (g := fun p => ⟨p.1, p.2.1, p.2.2.1, p.2.2.2⟩) (fun _ => rfl) (Opens.struct Try.underlying54 (by kernel_rfl) (OpensF.cons rfl (Opens.int (P := Try.prog) (t := 3) (by kernel_rfl) (by kernel_rfl)) (OpensF.cons rfl (Opens.int (P := Try.prog) (t := 3) (by kernel_rfl) (by kernel_rfl)) (OpensF.cons rfl (Opens.int (P := Try.prog) (t := 3) (by kernel_rfl) (by kernel_rfl)) (OpensF.one rfl (Opens.int (P := Try.prog) (t := 5) (by kernel_rfl) (by kernel_rfl)))))))
theorem opens39 : Opens Try.prog 39 k39 wf39 := Opens.iso (g := fun p => ⟨p.1, p.2.1, p.2.2.1, p.2.2.2⟩) (fun _ => rfl) (Opens.struct Try.underlying39 (by kernel_rfl) (OpensF.cons rfl (Opens.int (P := Try.prog) (t := 3) (by kernel_rfl) (by kernel_rfl)) (OpensF.cons rfl (Opens.int (P := Try.prog) (t := 3) (by kernel_rfl) (by kernel_rfl)) (OpensF.cons rfl (Opens.slice (P := Try.prog) (t := 37) (e := 5) (by kernel_rfl) (by kernel_rfl) (Opens.int (P := Try.prog) (t := 5) (by kernel_rfl) (by kernel_rfl))) (OpensF.one rfl (Opens.int (P := Try.prog) (t := 3) (by kernel_rfl) (by kernel_rfl)))))))
theorem opens41 : Opens Try.prog 41 k41 wf41 := Opens.iso (g := fun p => ⟨p.1, p.2.1, p.2.2⟩) (fun _ => rfl) (Opens.struct Try.underlying41 (by kernel_rfl) (OpensF.cons rfl (Opens.int (P := Try.prog) (t := 3) (by kernel_rfl) (by kernel_rfl)) (OpensF.cons rfl opens39 (OpensF.one rfl (Opens.int (P := Try.prog) (t := 3) (by kernel_rfl) (by kernel_rfl))))))
theorem opens26 : Opens Try.prog 26 k26 wf26 := Opens.iso (g := fun p => ⟨p.1, p.2.1, p.2.2⟩) (fun _ => rfl) (Opens.struct Try.underlying26 (by kernel_rfl) (OpensF.cons rfl (Opens.slice (P := Try.prog) (t := 22) (e := 35) (by kernel_rfl) (by kernel_rfl) opens35) (OpensF.cons rfl (Opens.slice (P := Try.prog) (t := 23) (e := 54) (by kernel_rfl) (by kernel_rfl) opens54) (OpensF.one rfl (Opens.slice (P := Try.prog) (t := 24) (e := 41) (by kernel_rfl) (by kernel_rfl) opens41)))))
set_option maxRecDepth 100000 in
theorem lifted (os : Os) (started : os.Started) (H : Type) (enc : TypeId × Value → H) :
    ReturnsInHanded {} Try.checked os 3 .any (Rows.busRegistersSpec.pre6 enc Try.prog Try.f3 Rows.busRegistersRow.domain false) (Rows.busRegistersSpec.post enc Try.prog Try.f3 false true false false) := by
  refine returnsInHanded_of_change_sized (C := Try.checked) own started (by kernel_rfl) Try.func3
    (ChangeSpec.witness6 (enc := enc) (C := Try.checked) false ⟨#[], #[.agg #[.slice none 0 0, .slice none 0 0, .slice none 0 0]], []⟩ 8 (by kernel_rfl) (by kernel_rfl) (by kernel_rfl) (by kernel_rfl)) ?_
  intro W base args ds gs before hval0 hW hcnd hsz0 _
  have hval : ∀ (j : Nat) t v, Try.f3.params[j]? = some t → args[j]? = some v → Value.okWide Try.prog W .any base t v := hval0
  have hW' := hW
  obtain ⟨p, q, hA0, hV, rfl, hfz, hnd⟩ := hW
  have hA : DataW.TrodAll enc Try.prog W 0 (fun _ => true) true Try.f3.params.toList args.toList ds p := hA0
  rw [Try.params3] at hA hval
  obtain ⟨v0, vs0, d0, ds0, p0, q0, hargs, rfl, rfl, h0, r0⟩ := trodAll_cons hA
  obtain ⟨rfl, rfl, rfl⟩ := trodAll_nil r0
  obtain rfl : args = #[v0] := by cases args; simp_all
  obtain ⟨rfl, rfl⟩ := trodVars_none hV
  have lt0 : ∀ x ∈ p0, x.block < W.heap.size := by obtain ⟨m, hm⟩ := h0; exact DataW.trod_lt m _ _ _ hm
  have k0 := h0
  obtain ⟨fuel0, hf0⟩ := h0
  obtain ⟨x0, hk0, hw0⟩ := Opens.opens opens26 hf0
  obtain ⟨A0_0, c0_0, A0_1, c0_1, A0_2, c0_2, hcs0, hc0_0, hr0_0, hc0_1, hr0_1, hc0_2, hr0_2⟩ := k26_open hk0
  obtain ⟨cs0, rfl, _, _⟩ : ∃ cs, v0 = .agg cs ∧ cs.size = Try.prog.cellsOf 26 ∧ Row.okWide Try.prog W .any base 26 cs := by have z := (hval 0 26 v0 rfl rfl); unfold Value.okWide at z; rw [Try.underlying26] at z; exact z
  obtain ⟨cl0⟩ := cs0
  simp only [Value.cells] at hcs0
  subst hcs0
  clear hA0 hval0 hsz0
  obtain ⟨k, hp⟩ := Pure.BusRegisters x0 hw0
  refine (gimballaw8_BusRegisters.calls k A0_0 c0_0 x0.f0 A0_1 c0_1 x0.f1 A0_2 c0_2 x0.f2 true W hr0_0 hc0_0 hr0_1 hc0_1 hr0_2 hc0_2 hp ⟨rfl⟩).mono fun e W' ⟨he, bel0⟩ => ?_
  have bel : Below W.heap.size W W' := bel0
  subst he
  exact ⟨_, rfl, _, _, _, [], _, [], hW', trodAll_mk1 (shut_bool Try.underlying4 _), (trodAll_cons_mk (Below.trod laidOut (by kernel_rfl) (of_decide_eq_true (by kernel_rfl)) k0 bel lt0) trodAll_mk0), rfl, bel.frame _, fun h => by cases h⟩
theorem over : Rows.busRegistersRow.holds Try.pinned (OpenSpec.ofChange Rows.busRegistersSpec) :=
  OpenClaim.holds_of_wide 3 Try.f3 rfl rfl rfl rfl rfl rfl rfl ⟨rfl, rfl, rfl, rfl, rfl⟩ rfl rfl rfl rfl rfl (by kernel_rfl) Try.func3 (by kernel_rfl)
    (of_decide_eq_true (by kernel_rfl)) (by unfold Func.isWrapper; first | (rw [if_pos (by decide +kernel)]; kernel_rfl) | (rw [if_neg (by decide +kernel)]; exact ⟨rfl, rfl⟩))
    (fun os started H enc _ => lifted os started H enc)
theorem proved : Rows.BusRegistersSaid := over
theorem preU {H : Type} {enc : TypeId × Value → H} (w : World) (args : Array Value) (h : (Rows.OpenSpec.upto Rows.busRegistersSpec).pre6 enc Try.prog Try.f3 Rows.busRegistersUptoRow.domain false w args) : Rows.busRegistersSpec.pre6 enc Try.prog Try.f3 Rows.busRegistersRow.domain false w args := by
  obtain ⟨h1, h2⟩ := h
  obtain ⟨ds, gs, before, q1, q2, q3⟩ := (OpenSpec.pre_some (s := Rows.OpenSpec.upto Rows.busRegistersSpec) rfl _ _ _ _).1 h1
  exact ⟨⟨ds, gs, before, q1, q2⟩, h2⟩
set_option maxRecDepth 100000 in
theorem liftedU (os : Os) (started : os.Started) (H : Type) (enc : TypeId × Value → H) (G : Stop.Interp) :
    ReturnsInHanded {} Try.checked os 3 .any ((Rows.OpenSpec.upto Rows.busRegistersSpec).pre6 enc Try.prog Try.f3 Rows.busRegistersUptoRow.domain false) (((Rows.OpenSpec.upto Rows.busRegistersSpec).at G).post enc Try.prog Try.f3 false true false false) := fun enter => by
  obtain ⟨h1, h2, h3, _, hall⟩ := lifted os started H enc enter
  obtain ⟨w0, t0, i0, a1, a2, a3, a4, a5, a6⟩ := OpenSpec.witness (enc := enc) (C := Try.checked) (os := os) (s := Rows.OpenSpec.upto Rows.busRegistersSpec) (conds := Rows.busRegistersUptoRow.domain) (apart := false) (f := 3) (fn := Try.f3) rfl false ⟨#[], #[.agg #[.slice none 0 0, .slice none 0 0, .slice none 0 0]], []⟩ 8 (by kernel_rfl) (by kernel_rfl) (by kernel_rfl) (x := ([.agg (List.replicate 3 .nil)], [], [])) (by kernel_rfl) (by kernel_rfl) (by kernel_rfl)
  exact ⟨h1, h2, h3, ⟨w0, t0, i0, a1, a2, a3, a4, a5, a6, trivial⟩, fun w tape i hh => hall w tape i ⟨hh.1, hh.2.1, hh.2.2.1, hh.2.2.2.1, preU _ _ hh.2.2.2.2.1, hh.2.2.2.2.2⟩⟩
theorem overU : Rows.busRegistersUptoRow.holds Try.pinned (Rows.OpenSpec.upto Rows.busRegistersSpec) :=
  OpenClaim.holds_of_cond 3 Try.f3 rfl rfl rfl rfl rfl rfl rfl ⟨rfl, rfl, rfl, rfl, rfl⟩ rfl rfl rfl rfl rfl (by kernel_rfl) Try.func3 (by kernel_rfl)
    (of_decide_eq_true (by kernel_rfl)) (by unfold Func.isWrapper; first | (rw [if_pos (by decide +kernel)]; kernel_rfl) | (rw [if_neg (by decide +kernel)]; exact ⟨rfl, rfl⟩))
    (fun os started H enc _ G => by rw [OpenClaim.pre_of_none' rfl]; exact liftedU os started H enc G)
theorem provedU : Rows.BusRegistersUptoSaid := overU
end Go.Proofs.Ytpolofolibabiaa.busRegisters
namespace Go.Proofs.Ytpolofolibabiaa
/-- The row. -/
theorem busRegisters_holds : Rows.BusRegistersSaid := busRegisters.proved
/-- The row, of what is of bulk at most 1048576. -/
theorem busRegistersUpto_holds : Rows.BusRegistersUptoSaid := busRegisters.provedU
end Go.Proofs.Ytpolofolibabiaa
