import Derived.Test.YteoikmbdpofhmaaVFnUsesXx15
import Derived.Test.YteoikmbdpofhmaaVFnUsesOpens
namespace Go.Proofs.Yteoikmbdpofhmaa.fnUses
open Go.RowKit Go.Proofs.YteoikmbdpofhmaaW.PrintWords Go.Proofs.YteoikmbdpofhmaaW.PrintLast Go.Proofs.Yteoikmbdpofhmaa.XFnUses Go.Proofs.Yteoikmbdpofhmaa.Opens
def Pure : Prop := ∀ (l0 : List Int), (GList (GInt .u8)) l0 → ∃ k, laws_FnUses.f k l0 = some true
end Go.Proofs.Yteoikmbdpofhmaa.fnUses
