-- Written by this session's program wip/xprint.py (a driver of its own over the kit's print).
import Derived.Test.YteoikmbdpofhmaaDoorXFnFaultTextx0
namespace Go.Proofs.YteoikmbdpofhmaaDoor.XFnFaultText
open Go.RowKit Go.Proofs.YteoikmbdpofhmaaDoorW.PrintWords Go.Proofs.YteoikmbdpofhmaaDoorW.PrintLast Go.Proofs.YteoikmbdpofhmaaDoorW.PrintMore
attribute [local go_sem] max2_int min2_int max_two min_two max_three min_three max_four min_four   -- for this text's walks alone
set_option linter.unusedVariables false
set_option linter.unusedSimpArgs false

/-! ### strconv_Itoa_17: function 17 -/
def strconv_Itoa_17.f (a0 : Int) : Option ByteArray := if int64B a0 then some ⟨(Lib.itoa a0).toArray⟩ else none
theorem strconv_Itoa_17.calls (a0 : Int) (r : ByteArray) (w : World) (hT : TabW w) (h : strconv_Itoa_17.f a0 = some r) :
    Calls Tryd.prog 17 #[.int .i64 a0] w fun e w' => e = .returned (.string r) ∧ Below w.heap.size w w' := by
  unfold strconv_Itoa_17.f at h
  by_cases hi : int64B a0
  · rw [if_pos hi] at h
    obtain rfl := Option.some.inj h
    refine (Tryd.strconv_Itoa a0 hi.1 hi.2 w hT).mono ?_
    rintro e w' ⟨rfl, k, os, rfl⟩
    exact ⟨rfl, Lib.below_grow _ w (Nat.le_refl _) k os⟩
  · rw [if_neg hi] at h
    cases h

end Go.Proofs.YteoikmbdpofhmaaDoor.XFnFaultText
