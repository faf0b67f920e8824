/-
  DrvExact: for every input the law's call returns true, and each argument reads behind it as it read before.
  No conditions.
-/
import Derived.Test.YtnlmbejkemkkoaaRows
import Derived.Test.YtnlmbejkemkkoaaPDrvExactx10
import Derived.Test.YtnlmbejkemkkoaaSpecDrvExact
import Derived.Test.YtnlmbejkemkkoaaPureDrvExact
import Derived.Test.YtnlmbejkemkkoaaOpens
import Derived.WalkKit
import Derived.ProofKit
import Derived.OpenShut
import Derived.ShutString
import Derived.ChangeOld
import Derived.Below
import Derived.SizedLaws
import Derived.Carry
namespace Go.Proofs.Ytnlmbejkemkkoaa.drvExact
open Go.ChangeShapes Go.WideShapes Go.ChangeAt Go.RowKit Go.Proofs.Ytnlmbejkemkkoaa.Op
open Go.Proofs.Ytnlmbejkemkkoaa.PDrvExact Go.Proofs.YtnlmbejkemkkoaaW.PrintWords
open Go.ChangeMaps (open_string shut_string)
theorem own : ownKnob Try.prog.godebug = none := by kernel_rfl
theorem laidOut : laidOutB Try.prog = true := by kernel_rfl
theorem opens24 : Opens Try.prog 24 k24 wf24 := Opens.iso (g := fun p => ⟨p.1, p.2.1, p.2.2.1, p.2.2.2.1, p.2.2.2.2.1, p.2.2.2.2.2.1, p.2.2.2.2.2.2.1, p.2.2.2.2.2.2.2.1, p.2.2.2.2.2.2.2.2⟩) (fun _ => rfl) (Opens.struct Try.underlying24 (by kernel_rfl) (OpensF.cons rfl (Opens.int (P := Try.prog) (t := 3) (by kernel_rfl) (by kernel_rfl)) (OpensF.cons rfl (Opens.int (P := Try.prog) (t := 3) (by kernel_rfl) (by kernel_rfl)) (OpensF.cons rfl (Opens.bool (P := Try.prog) (t := 4) (by kernel_rfl) (by kernel_rfl)) (OpensF.cons rfl (Opens.int (P := Try.prog) (t := 3) (by kernel_rfl) (by kernel_rfl)) (OpensF.cons rfl (Opens.int (P := Try.prog) (t := 3) (by kernel_rfl) (by kernel_rfl)) (OpensF.cons rfl (Opens.int (P := Try.prog) (t := 3) (by kernel_rfl) (by kernel_rfl)) (OpensF.cons rfl (Opens.bool (P := Try.prog) (t := 4) (by kernel_rfl) (by kernel_rfl)) (OpensF.cons rfl (Opens.int (P := Try.prog) (t := 3) (by kernel_rfl) (by kernel_rfl)) (OpensF.one rfl (Opens.int (P := Try.prog) (t := 3) (by kernel_rfl) (by kernel_rfl))))))))))))
theorem opens27 : Opens Try.prog 27 k27 wf27 := Opens.iso (g := fun p => ⟨p.1, p.2⟩) (fun _ => rfl) (Opens.struct Try.underlying27 (by kernel_rfl) (OpensF.cons rfl (Opens.int (P := Try.prog) (t := 3) (by kernel_rfl) (by kernel_rfl)) (OpensF.one rfl (Opens.slice (P := Try.prog) (t := 25) (e := 5) (by kernel_rfl) (by kernel_rfl) (Opens.int (P := Try.prog) (t := 5) (by kernel_rfl) (by kernel_rfl))))))
theorem opens29 : Opens Try.prog 29 k29 wf29 := Opens.iso (g := fun p => ⟨p.1, p.2.1, p.2.2.1, p.2.2.2⟩) (fun _ => rfl) (Opens.struct Try.underlying29 (by kernel_rfl) (OpensF.cons rfl opens24 (OpensF.cons rfl (Opens.bool (P := Try.prog) (t := 4) (by kernel_rfl) (by kernel_rfl)) (OpensF.cons rfl (Opens.int (P := Try.prog) (t := 3) (by kernel_rfl) (by kernel_rfl)) (OpensF.one rfl opens27)))))
set_option maxRecDepth 100000 in
theorem lifted (os : Os) (started : os.Started) (H : Type) (enc : TypeId × Value → H) :
    ReturnsInHanded {} Try.checked os 7 .any (Rows.drvExactSpec.pre6 enc Try.prog Try.f7 Rows.drvExactRow.domain false) (Rows.drvExactSpec.post enc Try.prog Try.f7 false true false false) := by
  refine returnsInHanded_of_change_sized (C := Try.checked) own started (by kernel_rfl) Try.func7
    (ChangeSpec.witness6 (enc := enc) (C := Try.checked) false ⟨#[], #[.slice none 0 0], []⟩ 8 (by kernel_rfl) (by kernel_rfl) (by kernel_rfl) (by kernel_rfl)) ?_
  intro W base args ds gs before hval0 hW hcnd hsz0 _
  have hval : ∀ (j : Nat) t v, Try.f7.params[j]? = some t → args[j]? = some v → Value.okWide Try.prog W .any base t v := hval0
  have hW' := hW
  obtain ⟨p, q, hA0, hV, rfl, hfz, hnd⟩ := hW
  have hA : DataW.TrodAll enc Try.prog W 0 (fun _ => true) true Try.f7.params.toList args.toList ds p := hA0
  rw [Try.params7] at hA hval
  obtain ⟨v0, vs0, d0, ds0, p0, q0, hargs, rfl, rfl, h0, r0⟩ := trodAll_cons hA
  obtain ⟨rfl, rfl, rfl⟩ := trodAll_nil r0
  obtain rfl : args = #[v0] := by cases args; simp_all
  obtain ⟨rfl, rfl⟩ := trodVars_none hV
  obtain ⟨a0, len0, cap0, rfl⟩ := okWide_slice Try.underlying22 (hval 0 22 v0 rfl rfl)
  have lt0 : ∀ x ∈ p0, x.block < W.heap.size := by obtain ⟨m, hm⟩ := h0; exact DataW.trod_lt m _ _ _ hm
  have k0 := h0
  obtain ⟨fuel0, hf0⟩ := h0
  obtain ⟨l0, ⟨A0, c0, hcs0, hc0, hr0⟩, hw0⟩ := Opens.opens (Opens.slice (P := Try.prog) (t := 22) (e := 29) (by kernel_rfl) (by kernel_rfl) opens29) hf0
  obtain ⟨rfl, rfl, rfl⟩ : a0 = A0 ∧ len0 = l0.length ∧ cap0 = c0 := by simpa [Value.cells] using hcs0
  clear hA0 hval0 hsz0
  obtain ⟨k, hp⟩ := Pure.DrvExact l0 hw0
  refine (gimballaw9_DrvExact.calls k a0 cap0 l0 true W hr0 hc0 hp ⟨rfl⟩).mono fun e W' ⟨he, bel0⟩ => ?_
  have bel : Below W.heap.size W W' := bel0
  subst he
  exact ⟨_, rfl, _, _, _, [], _, [], hW', trodAll_mk1 (shut_bool Try.underlying4 _), (trodAll_cons_mk (Below.trod laidOut (by kernel_rfl) (of_decide_eq_true (by kernel_rfl)) k0 bel lt0) trodAll_mk0), rfl, bel.frame _, fun h => by cases h⟩
theorem over : Rows.drvExactRow.holds Try.pinned (OpenSpec.ofChange Rows.drvExactSpec) :=
  OpenClaim.holds_of_wide 7 Try.f7 rfl rfl rfl rfl rfl rfl rfl ⟨rfl, rfl, rfl, rfl, rfl⟩ rfl rfl rfl rfl rfl (by kernel_rfl) Try.func7 (by kernel_rfl)
    (of_decide_eq_true (by kernel_rfl)) (by unfold Func.isWrapper; first | (rw [if_pos (by decide +kernel)]; kernel_rfl) | (rw [if_neg (by decide +kernel)]; exact ⟨rfl, rfl⟩))
    (fun os started H enc _ => lifted os started H enc)
theorem proved : Rows.DrvExactSaid := over
end Go.Proofs.Ytnlmbejkemkkoaa.drvExact
namespace Go.Proofs.Ytnlmbejkemkkoaa
/-- The row. -/
theorem drvExact_holds : Rows.DrvExactSaid := drvExact.proved
end Go.Proofs.Ytnlmbejkemkkoaa
