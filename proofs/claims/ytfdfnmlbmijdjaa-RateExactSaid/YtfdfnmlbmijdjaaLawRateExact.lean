/-
  RateExact: for every input the law's call returns true, and each argument reads behind it as it read before.
  No conditions.
-/
import Derived.Test.YtfdfnmlbmijdjaaRows
import Derived.Test.YtfdfnmlbmijdjaaPRateExactx6
import Derived.Test.YtfdfnmlbmijdjaaSpecRateExact
import Derived.Test.YtfdfnmlbmijdjaaPureRateExact
import Derived.Test.YtfdfnmlbmijdjaaOpens
import Derived.WalkKit
import Derived.ProofKit
import Derived.OpenShut
import Derived.ShutString
import Derived.ChangeOld
import Derived.Below
import Derived.SizedLaws
import Derived.Carry
namespace Go.Proofs.Ytfdfnmlbmijdjaa.rateExact
open Go.ChangeShapes Go.WideShapes Go.ChangeAt Go.RowKit Go.Proofs.Ytfdfnmlbmijdjaa.Op
open Go.Proofs.Ytfdfnmlbmijdjaa.PRateExact Go.Proofs.YtfdfnmlbmijdjaaW.PrintWords
open Go.ChangeMaps (open_string shut_string)
theorem own : ownKnob Try.prog.godebug = none := by kernel_rfl
theorem laidOut : laidOutB Try.prog = true := by kernel_rfl
theorem opens29 : Opens Try.prog 29 k29 wf29 := Opens.iso (g := fun p => ⟨p.1, p.2.1, p.2.2.1, p.2.2.2⟩) (fun _ => rfl) (Opens.struct Try.underlying29 (by kernel_rfl) (OpensF.cons rfl (Opens.int (P := Try.prog) (t := 3) (by kernel_rfl) (by kernel_rfl)) (OpensF.cons rfl (Opens.int (P := Try.prog) (t := 3) (by kernel_rfl) (by kernel_rfl)) (OpensF.cons rfl (Opens.int (P := Try.prog) (t := 3) (by kernel_rfl) (by kernel_rfl)) (OpensF.one rfl (Opens.int (P := Try.prog) (t := 3) (by kernel_rfl) (by kernel_rfl)))))))
theorem opens31 : Opens Try.prog 31 k31 wf31 := Opens.iso (g := fun p => ⟨p.1, p.2.1, p.2.2⟩) (fun _ => rfl) (Opens.struct Try.underlying31 (by kernel_rfl) (OpensF.cons rfl (Opens.int (P := Try.prog) (t := 3) (by kernel_rfl) (by kernel_rfl)) (OpensF.cons rfl opens29 (OpensF.one rfl (Opens.int (P := Try.prog) (t := 2) (by kernel_rfl) (by kernel_rfl))))))
set_option maxRecDepth 100000 in
theorem lifted (os : Os) (started : os.Started) (H : Type) (enc : TypeId × Value → H) :
    ReturnsInHanded {} Try.checked os 5 .any (Rows.rateExactSpec.pre6 enc Try.prog Try.f5 Rows.rateExactRow.domain false) (Rows.rateExactSpec.post enc Try.prog Try.f5 false true false false) := by
  refine returnsInHanded_of_change_sized (C := Try.checked) own started (by kernel_rfl) Try.func5
    (ChangeSpec.witness6 (enc := enc) (C := Try.checked) false ⟨#[], #[.slice none 0 0], []⟩ 8 (by kernel_rfl) (by kernel_rfl) (by kernel_rfl) (by kernel_rfl)) ?_
  intro W base args ds gs before hval0 hW hcnd hsz0 _
  have hval : ∀ (j : Nat) t v, Try.f5.params[j]? = some t → args[j]? = some v → Value.okWide Try.prog W .any base t v := hval0
  have hW' := hW
  obtain ⟨p, q, hA0, hV, rfl, hfz, hnd⟩ := hW
  have hA : DataW.TrodAll enc Try.prog W 0 (fun _ => true) true Try.f5.params.toList args.toList ds p := hA0
  rw [Try.params5] at hA hval
  obtain ⟨v0, vs0, d0, ds0, p0, q0, hargs, rfl, rfl, h0, r0⟩ := trodAll_cons hA
  obtain ⟨rfl, rfl, rfl⟩ := trodAll_nil r0
  obtain rfl : args = #[v0] := by cases args; simp_all
  obtain ⟨rfl, rfl⟩ := trodVars_none hV
  obtain ⟨a0, len0, cap0, rfl⟩ := okWide_slice Try.underlying22 (hval 0 22 v0 rfl rfl)
  have lt0 : ∀ x ∈ p0, x.block < W.heap.size := by obtain ⟨m, hm⟩ := h0; exact DataW.trod_lt m _ _ _ hm
  have k0 := h0
  obtain ⟨fuel0, hf0⟩ := h0
  obtain ⟨l0, ⟨A0, c0, hcs0, hc0, hr0⟩, hw0⟩ := Opens.opens (Opens.slice (P := Try.prog) (t := 22) (e := 31) (by kernel_rfl) (by kernel_rfl) opens31) hf0
  obtain ⟨rfl, rfl, rfl⟩ : a0 = A0 ∧ len0 = l0.length ∧ cap0 = c0 := by simpa [Value.cells] using hcs0
  clear hA0 hval0 hsz0
  obtain ⟨k, hp⟩ := Pure.RateExact l0 hw0
  refine (gimballaw27_RateExact.calls k a0 cap0 l0 true W hr0 hc0 hp ⟨rfl⟩).mono fun e W' ⟨he, bel0⟩ => ?_
  have bel : Below W.heap.size W W' := bel0
  subst he
  exact ⟨_, rfl, _, _, _, [], _, [], hW', trodAll_mk1 (shut_bool Try.underlying4 _), (trodAll_cons_mk (Below.trod laidOut (by kernel_rfl) (of_decide_eq_true (by kernel_rfl)) k0 bel lt0) trodAll_mk0), rfl, bel.frame _, fun h => by cases h⟩
theorem over : Rows.rateExactRow.holds Try.pinned (OpenSpec.ofChange Rows.rateExactSpec) :=
  OpenClaim.holds_of_wide 5 Try.f5 rfl rfl rfl rfl rfl rfl rfl ⟨rfl, rfl, rfl, rfl, rfl⟩ rfl rfl rfl rfl rfl (by kernel_rfl) Try.func5 (by kernel_rfl)
    (of_decide_eq_true (by kernel_rfl)) (by unfold Func.isWrapper; first | (rw [if_pos (by decide +kernel)]; kernel_rfl) | (rw [if_neg (by decide +kernel)]; exact ⟨rfl, rfl⟩))
    (fun os started H enc _ => lifted os started H enc)
theorem proved : Rows.RateExactSaid := over
end Go.Proofs.Ytfdfnmlbmijdjaa.rateExact
namespace Go.Proofs.Ytfdfnmlbmijdjaa
/-- The row. -/
theorem rateExact_holds : Rows.RateExactSaid := rateExact.proved
end Go.Proofs.Ytfdfnmlbmijdjaa
