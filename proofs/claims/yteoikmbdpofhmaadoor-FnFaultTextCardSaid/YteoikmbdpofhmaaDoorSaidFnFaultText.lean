-- Written by this session's program wip/xprint.py: the one pure statement of a law.
import Derived.Test.YteoikmbdpofhmaaDoorXFnFaultTextx15
import Derived.Test.YteoikmbdpofhmaaDoorOpens
namespace Go.Proofs.YteoikmbdpofhmaaDoor.fnFaultText
open Go.RowKit Go.Proofs.YteoikmbdpofhmaaDoorW.PrintWords Go.Proofs.YteoikmbdpofhmaaDoorW.PrintLast Go.Proofs.YteoikmbdpofhmaaDoor.XFnFaultText Go.Proofs.YteoikmbdpofhmaaDoor.Opens
def Pure : Prop := ∀ (l0 : List Int), (GList (GInt .u8)) l0 → ∃ k, laws_FnFaultText.f k l0 = some true
end Go.Proofs.YteoikmbdpofhmaaDoor.fnFaultText
