/-
  The pure law of BusRegisters: the walk has shown all.
  No conditions.
-/
import Derived.Test.YtpolofolibabiaaSpecBusRegisters
namespace Go.Proofs.Ytpolofolibabiaa.Pure
open Go.RowKit Go.Proofs.Ytpolofolibabiaa Go.Proofs.Ytpolofolibabiaa.PBusRegisters Go.Proofs.YtpolofolibabiaaW.PrintWords Go.Proofs.YtpolofolibabiaaW.PrintLast Go.Proofs.YtpolofolibabiaaW.PrintMore
theorem BusRegisters : gimballaw8_BusRegisters.Pure := fun _ _ => ⟨0, rfl⟩
end Go.Proofs.Ytpolofolibabiaa.Pure
