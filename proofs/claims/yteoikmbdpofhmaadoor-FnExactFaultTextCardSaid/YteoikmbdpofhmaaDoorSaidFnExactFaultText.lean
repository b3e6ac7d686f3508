-- Written by this session's program wip/xprint.py: the one pure statement of a law.
import Derived.Test.YteoikmbdpofhmaaDoorXFnExactFaultTextx9
import Derived.Test.YteoikmbdpofhmaaDoorOpens
namespace Go.Proofs.YteoikmbdpofhmaaDoor.fnExactFaultText
open Go.RowKit Go.Proofs.YteoikmbdpofhmaaDoorW.PrintWords Go.Proofs.YteoikmbdpofhmaaDoorW.PrintLast Go.Proofs.YteoikmbdpofhmaaDoor.XFnExactFaultText Go.Proofs.YteoikmbdpofhmaaDoor.Opens
def GS23 (x : S23) : Prop := (GInt .i64) x.f0 ∧ (GInt .i64) x.f1 ∧ (GInt .i64) x.f2
def Pure : Prop := ∀ (a0 : Int) (a1_0 : Int) (a1_1 : Int) (a1_2 : Int), (GInt .i64) a0 → GS23 (⟨a1_0, a1_1, a1_2⟩ : S23) → ∃ k, laws_FnExactFaultText.f k a0 a1_0 a1_1 a1_2 = some true
end Go.Proofs.YteoikmbdpofhmaaDoor.fnExactFaultText
