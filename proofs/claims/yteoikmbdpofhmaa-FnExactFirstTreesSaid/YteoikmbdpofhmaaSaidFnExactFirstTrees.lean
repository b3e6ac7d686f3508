-- Written by this session's program wip/xprint.py: the one pure statement of a law.
import Derived.Test.YteoikmbdpofhmaaXFnExactFirstTreesx8
import Derived.Test.YteoikmbdpofhmaaOpens
namespace Go.Proofs.Yteoikmbdpofhmaa.fnExactFirstTrees
open Go.RowKit Go.Proofs.YteoikmbdpofhmaaW.PrintWords Go.Proofs.YteoikmbdpofhmaaW.PrintLast Go.Proofs.Yteoikmbdpofhmaa.XFnExactFirstTrees Go.Proofs.Yteoikmbdpofhmaa.Opens
def GS144 (x : S144) : Prop := (GInt .i64) x.f0 ∧ (GInt .i64) x.f1 ∧ (GInt .i64) x.f2 ∧ (GInt .i64) x.f3 ∧ (GInt .i64) x.f4
def GS117 (x : S117) : Prop := (GList (GS144)) x.f0
def GS42 (x : S42) : Prop := (GList (GStr)) x.f0 ∧ (GList (GInt .i64)) x.f1 ∧ (GInt .i64) x.f2 ∧ (GList (GS117)) x.f3
def Pure : Prop := ∀ (l0_0 : List ByteArray) (l0_1 : List Int) (a0_2 : Int) (l0_3 : List (S117)) (a1 : Int), GS42 (⟨l0_0, l0_1, a0_2, l0_3⟩ : S42) → (GInt .i64) a1 → ∃ k, laws_FnExactFirstTrees.f k l0_0 l0_1 a0_2 l0_3 a1 = some true
end Go.Proofs.Yteoikmbdpofhmaa.fnExactFirstTrees
