import Derived.Test.YtcgmdpnhlkbpbaaDoorVFnNodeTextWInv
import Derived.Test.YtcgmdpnhlkbpbaaDoorVFnNodeTextWFootNe
namespace Go.Proofs.YtcgmdpnhlkbpbaaDoorW.PrintWords
open Go.RowKit
end Go.Proofs.YtcgmdpnhlkbpbaaDoorW.PrintWords
namespace Go.Proofs.YtcgmdpnhlkbpbaaDoorW.PrintLast
section
variable {ops : Array Oper} {a : Act} {o og : Oper} {g : Nat} {t : Tmp} {u : Bool}
end
end Go.Proofs.YtcgmdpnhlkbpbaaDoorW.PrintLast
