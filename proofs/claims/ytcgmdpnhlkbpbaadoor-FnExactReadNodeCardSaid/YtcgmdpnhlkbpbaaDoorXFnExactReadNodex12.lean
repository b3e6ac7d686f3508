-- Written by this session's program wip/xprint.py (a driver of its own over the kit's print).
import Derived.Test.YtcgmdpnhlkbpbaaDoorXFnExactReadNodex0
namespace Go.Proofs.YtcgmdpnhlkbpbaaDoor.XFnExactReadNode
open Go.RowKit Go.Proofs.YtcgmdpnhlkbpbaaDoorW.PrintWords Go.Proofs.YtcgmdpnhlkbpbaaDoorW.PrintLast Go.Proofs.YtcgmdpnhlkbpbaaDoorW.PrintMore
attribute [local go_sem] max2_int min2_int max_two min_two max_three min_three max_four min_four   -- for this text's walks alone
set_option linter.unusedVariables false
set_option linter.unusedSimpArgs false

/-! ### strconv_Itoa_98: function 98 -/
def strconv_Itoa_98.f (a0 : Int) : Option ByteArray := if int64B a0 then some ⟨(Lib.itoa a0).toArray⟩ else none
theorem itoa_val (n : Int) (h : int64B n) : strconv_Itoa_98.f n = some ⟨(Lib.itoa n).toArray⟩ := if_pos h
theorem strconv_Itoa_98.calls (a0 : Int) (r : ByteArray) (w : World) (hT : TabW w) (h : strconv_Itoa_98.f a0 = some r) :
    Calls Tryd.prog 98 #[.int .i64 a0] w fun e w' => e = .returned (.string r) ∧ Below w.heap.size w w' := by
  unfold strconv_Itoa_98.f at h
  by_cases hi : int64B a0
  · rw [if_pos hi] at h
    obtain rfl := Option.some.inj h
    refine (Tryd.strconv_Itoa a0 hi.1 hi.2 w (tabW_pow hT)).mono ?_
    rintro e w' ⟨rfl, k, os, rfl⟩
    exact ⟨rfl, Lib.below_grow _ w (Nat.le_refl _) k os⟩
  · rw [if_neg hi] at h
    cases h

end Go.Proofs.YtcgmdpnhlkbpbaaDoor.XFnExactReadNode
