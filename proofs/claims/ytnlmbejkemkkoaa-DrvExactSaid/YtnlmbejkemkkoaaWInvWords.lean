import Derived.Test.YtnlmbejkemkkoaaWInv
import Derived.Test.YtnlmbejkemkkoaaWFootNe
namespace Go.Proofs.YtnlmbejkemkkoaaW.PrintWords
open Go.RowKit
end Go.Proofs.YtnlmbejkemkkoaaW.PrintWords
namespace Go.Proofs.YtnlmbejkemkkoaaW.PrintLast
section
variable {ops : Array Oper} {a : Act} {o og : Oper} {g : Nat} {t : Tmp} {u : Bool}
end
end Go.Proofs.YtnlmbejkemkkoaaW.PrintLast
