/-
  The law's own look at the sum of nine digits: the machine's call tells true.
  No conditions.
-/
import Derived.Test.YthmhfllpgnokiaaCrcB
import Derived.Lib.SlBytesConst
namespace Go.Proofs.Ythmhfllpgnokiaa
open Go.RowKit Go.Proofs.YthmhfllpgnokiaaW.PrintWords Go.Proofs.YthmhfllpgnokiaaW.PrintLast Go.Proofs.YthmhfllpgnokiaaW.PrintMore
def nine : List Int := [49, 50, 51, 52, 53, 54, 55, 56, 57]
def nineV : Array Value := #[.int .u8 49, .int .u8 50, .int .u8 51, .int .u8 52, .int .u8 53, .int .u8 54, .int .u8 55, .int .u8 56, .int .u8 57]
theorem nine_sum : sumB nine 9 = 10673 := by decide +kernel
theorem nine_reads (w : World) (fr : Nat × Nat) : Kd.C (Kd.int .u8) (w.alloc (.cells nineV 5 fr)) (some ⟨w.heap.size, 0, none⟩) nine.length nine := by
  refine ⟨rfl, by decide, fun _ => ⟨_, rfl, fun j p hj => ⟨[.int .u8 p], rfl, rfl, fun i u hu => ?_⟩⟩⟩
  have hi : i = 0 := by
    cases i with
    | zero => rfl
    | succ i => simp at hu
  subst hi
  have hadd : (⟨w.heap.size, 0, none⟩ : Addr).add (j * 1 + 0) = ⟨w.heap.size, j, none⟩ := by unfold Addr.add; split <;> simp_all
  show World.cell? _ ((⟨w.heap.size, 0, none⟩ : Addr).add (j * 1 + 0)) = _
  rw [hadd, cell_of_row _ _ j nineV _ fr (heap_alloc_new w _)]
  simp only [List.getElem?_cons_zero, Option.some.injEq] at hu
  subst hu
  have hjl : j < 9 := by
    have := (List.getElem?_eq_some_iff.1 hj).1
    exact this
  have : ∀ j : Fin 9, ∀ p, nine[j.1]? = some p → nineV[j.1]? = some (.int .u8 p) := by
    intro j p h
    match j, h with
    | ⟨0, _⟩, h | ⟨1, _⟩, h | ⟨2, _⟩, h | ⟨3, _⟩, h | ⟨4, _⟩, h | ⟨5, _⟩, h | ⟨6, _⟩, h | ⟨7, _⟩, h | ⟨8, _⟩, h => cases h; rfl
  exact this ⟨j, hjl⟩ p hj
set_option maxHeartbeats 400000 in
theorem wakes_any (w : World) : Calls Try.prog 9 #[] w fun e w' => e = .returned (.bool true) ∧ Below w.heap.size w w' := by
  have hc := Lib.run_convert_bytes_const (P := Try.prog) w 23 5 nineV 9 9 (by kernel_rfl) (by kernel_rfl)
  have hr := Aside0.mk (nine_reads w (nineV.size, nineV.size + 1))
  unfold nineV at hc
  go_enter Try.func9, Try.ntmps9
  go_wp2_with (go_at_call 7; refine (Sum_any (some ⟨w.heap.size, 0, none⟩) 9 nine _ hr.out (by decide)).mono ?_; rintro e w' ⟨rfl, hb⟩)
  go_ret
  exact ⟨rfl, ((Below.refl _ _).alloc (Nat.le_refl _) _).trans (hb.mono (by simp))⟩
end Go.Proofs.Ythmhfllpgnokiaa
