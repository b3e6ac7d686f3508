import Derived.Test.YteoikmbdpofhmaaVFnUsesWInv
import Derived.Test.YteoikmbdpofhmaaVFnUsesWFootNe
namespace Go.Proofs.YteoikmbdpofhmaaW.PrintWords
open Go.RowKit
end Go.Proofs.YteoikmbdpofhmaaW.PrintWords
namespace Go.Proofs.YteoikmbdpofhmaaW.PrintLast
section
variable {ops : Array Oper} {a : Act} {o og : Oper} {g : Nat} {t : Tmp} {u : Bool}
end
end Go.Proofs.YteoikmbdpofhmaaW.PrintLast
