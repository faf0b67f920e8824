import Derived.Test.YthmhfllpgnokiaaPCrcLinearx0
namespace Go.Proofs.Ythmhfllpgnokiaa.PCrcLinear
open Go.RowKit Go.Proofs.YthmhfllpgnokiaaW.PrintWords Go.Proofs.YthmhfllpgnokiaaW.PrintLast Go.Proofs.YthmhfllpgnokiaaW.PrintMore
attribute [local go_sem] max2_int min2_int max_two min_two max_three min_three max_four min_four   -- for this text's walks alone
set_option linter.unusedVariables false
set_option linter.unusedSimpArgs false

-- NOT PRINTED: function 15 (crc_row)

-- NOT PRINTED: function 13 (crc_sum_byte)

/-! ### crc_Sum: function 7 -/
def crc_Sum.f (l0 : List Int) : Option (Int) := some (sumB l0 l0.length)
theorem crc_Sum.calls (A0 : Option Addr) (c0 : Nat) (l0 : List Int) (r : Int) (w : World) (hr0 : Kd.C (Kd.int .u8) w A0 l0.length l0) (hc0 : l0.length ≤ c0) (h : crc_Sum.f l0 = some r) :
    Calls Try.prog 7 #[.slice A0 l0.length c0] w fun e w' => e = .returned (.int .u16 r) ∧ Below w.heap.size w w' := by
  cases h
  exact Sum_any A0 c0 l0 w hr0 hc0

/-! ### gimballaw22_wakes: function 9 -/
def gimballaw22_wakes.f  : Option (Bool) := some true
theorem gimballaw22_wakes.calls  (r : Bool) (w : World) (h : gimballaw22_wakes.f  = some r) :
    Calls Try.prog 9 #[] w fun e w' => e = .returned (.bool r) ∧ Below w.heap.size w w' := by
  cases h
  exact wakes_any w

end Go.Proofs.Ythmhfllpgnokiaa.PCrcLinear
