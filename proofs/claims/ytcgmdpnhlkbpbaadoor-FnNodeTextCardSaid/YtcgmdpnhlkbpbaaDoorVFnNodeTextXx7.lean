import Derived.Test.YtcgmdpnhlkbpbaaDoorVFnNodeTextXx0
import Derived.Test.YtcgmdpnhlkbpbaaDoorVFnNodeTextXx2
import Derived.Test.YtcgmdpnhlkbpbaaDoorVFnNodeTextXx5
import Derived.Test.YtcgmdpnhlkbpbaaDoorVFnNodeTextXx6
namespace Go.Proofs.YtcgmdpnhlkbpbaaDoor.XFnNodeText
open Go.RowKit Go.Proofs.YtcgmdpnhlkbpbaaDoorW.PrintWords Go.Proofs.YtcgmdpnhlkbpbaaDoorW.PrintLast Go.Proofs.YtcgmdpnhlkbpbaaDoorW.PrintMore
attribute [local go_sem] max2_int min2_int max_two min_two max_three min_three max_four min_four
set_option linter.unusedVariables false
set_option linter.unusedSimpArgs false
theorem spec_l17Bent.K4_ {p0 p1 p2 p3 : Prop} (h0 : p0) (h1 : p1) (h2 : p2) (h3 : p3) : Aside0 p0 ∧ Aside0 p1 ∧ Aside0 p2 ∧ Aside0 p3 := ⟨⟨h0⟩, ⟨h1⟩, ⟨h2⟩, ⟨h3⟩⟩
theorem spec_l17Bent.K5_ {p0 p1 p2 p3 p4 : Prop} (h0 : p0) (h1 : p1) (h2 : p2) (h3 : p3) (h4 : p4) : Aside0 p0 ∧ Aside0 p1 ∧ Aside0 p2 ∧ Aside0 p3 ∧ Aside0 p4 := ⟨⟨h0⟩, ⟨h1⟩, ⟨h2⟩, ⟨h3⟩, ⟨h4⟩⟩
theorem spec_l17Bent.K6_ {p0 p1 p2 p3 p4 p5 : Prop} (h0 : p0) (h1 : p1) (h2 : p2) (h3 : p3) (h4 : p4) (h5 : p5) : Aside0 p0 ∧ Aside0 p1 ∧ Aside0 p2 ∧ Aside0 p3 ∧ Aside0 p4 ∧ Aside0 p5 := ⟨⟨h0⟩, ⟨h1⟩, ⟨h2⟩, ⟨h3⟩, ⟨h4⟩, ⟨h5⟩⟩
theorem spec_l17Bent.K7_ {p0 p1 p2 p3 p4 p5 p6 : Prop} (h0 : p0) (h1 : p1) (h2 : p2) (h3 : p3) (h4 : p4) (h5 : p5) (h6 : p6) : Aside0 p0 ∧ Aside0 p1 ∧ Aside0 p2 ∧ Aside0 p3 ∧ Aside0 p4 ∧ Aside0 p5 ∧ Aside0 p6 := ⟨⟨h0⟩, ⟨h1⟩, ⟨h2⟩, ⟨h3⟩, ⟨h4⟩, ⟨h5⟩, ⟨h6⟩⟩
theorem spec_l17Bent.K8_ {p0 p1 p2 p3 p4 p5 p6 p7 : Prop} (h0 : p0) (h1 : p1) (h2 : p2) (h3 : p3) (h4 : p4) (h5 : p5) (h6 : p6) (h7 : p7) : Aside0 p0 ∧ Aside0 p1 ∧ Aside0 p2 ∧ Aside0 p3 ∧ Aside0 p4 ∧ Aside0 p5 ∧ Aside0 p6 ∧ Aside0 p7 := ⟨⟨h0⟩, ⟨h1⟩, ⟨h2⟩, ⟨h3⟩, ⟨h4⟩, ⟨h5⟩, ⟨h6⟩, ⟨h7⟩⟩
theorem spec_l17Bent.K12_ {p0 p1 p2 p3 p4 p5 p6 p7 p8 p9 p10 p11 : Prop} (h0 : p0) (h1 : p1) (h2 : p2) (h3 : p3) (h4 : p4) (h5 : p5) (h6 : p6) (h7 : p7) (h8 : p8) (h9 : p9) (h10 : p10) (h11 : p11) : Aside0 p0 ∧ Aside0 p1 ∧ Aside0 p2 ∧ Aside0 p3 ∧ Aside0 p4 ∧ Aside0 p5 ∧ Aside0 p6 ∧ Aside0 p7 ∧ Aside0 p8 ∧ Aside0 p9 ∧ Aside0 p10 ∧ Aside0 p11 := ⟨⟨h0⟩, ⟨h1⟩, ⟨h2⟩, ⟨h3⟩, ⟨h4⟩, ⟨h5⟩, ⟨h6⟩, ⟨h7⟩, ⟨h8⟩, ⟨h9⟩, ⟨h10⟩, ⟨h11⟩⟩
def spec_l17Bent.f (k : Nat) (s0_0 : List Int) (s0_1 : Int) (s0_2 : Int) : Option ((List (S23)) × Int × Int) := (spec_l1Below.f s0_0 s0_1 s0_2 3).bind fun bt240 => ((spec_l17Right.f k s0_0 bt240.2.1 bt240.2.2 (wrap64 (1 + bt240.1))).bind fun bt243 => ((spec_l1Below.f s0_0 bt243.2.1 bt243.2.2 (bt243.1.length : Int)).bind fun bt249 => ((spec_l1Below.f s0_0 bt249.2.1 bt249.2.2 14).bind fun bt252 => (if bt252.1 = 0 then ((spec_l1PickInt.f s0_0 bt252.2.1 bt252.2.2 (([(-1), 0, 1, 4, (-2), 9223372036854775807] : List Int))).bind fun bt258 => (if 0 ≤ bt249.1 then (if bt249.1 < (bt243.1.length : Int) then (some ((bt243.1.set (bt249.1 : Int).toNat (⟨bt258.1, (rd_T23 bt243.1 bt249.1).f1, (rd_T23 bt243.1 bt249.1).f2, (rd_T23 bt243.1 bt249.1).f3, (rd_T23 bt243.1 bt249.1).f4⟩ : S23)), bt258.2.1, bt258.2.2)) else (none)) else (none))) else (if bt252.1 = 1 then ((spec_l1PickInt.f s0_0 bt252.2.1 bt252.2.2 (([0, 1, 2147483648, (-2147483648), 500] : List Int))).bind fun bt265 => (if 0 ≤ bt249.1 then (if bt249.1 < (bt243.1.length : Int) then (some ((bt243.1.set (bt249.1 : Int).toNat (⟨(rd_T23 bt243.1 bt249.1).f0, bt265.1, (rd_T23 bt243.1 bt249.1).f2, (rd_T23 bt243.1 bt249.1).f3, (rd_T23 bt243.1 bt249.1).f4⟩ : S23)), bt265.2.1, bt265.2.2)) else (none)) else (none))) else (if bt252.1 = 2 then ((spec_l1PickInt.f s0_0 bt252.2.1 bt252.2.2 (([0, 1, 2, (-1), 40, bt249.1] : List Int))).bind fun bt272 => (if 0 ≤ bt249.1 then (if bt249.1 < (bt243.1.length : Int) then (some ((bt243.1.set (bt249.1 : Int).toNat (⟨(rd_T23 bt243.1 bt249.1).f0, (rd_T23 bt243.1 bt249.1).f1, bt272.1, (rd_T23 bt243.1 bt249.1).f3, (rd_T23 bt243.1 bt249.1).f4⟩ : S23)), bt272.2.1, bt272.2.2)) else (none)) else (none))) else (if bt252.1 = 3 then ((spec_l1PickInt.f s0_0 bt252.2.1 bt252.2.2 (([0, 1, 2, (-1), 40, bt249.1] : List Int))).bind fun bt279 => (if 0 ≤ bt249.1 then (if bt249.1 < (bt243.1.length : Int) then (some ((bt243.1.set (bt249.1 : Int).toNat (⟨(rd_T23 bt243.1 bt249.1).f0, (rd_T23 bt243.1 bt249.1).f1, (rd_T23 bt243.1 bt249.1).f2, bt279.1, (rd_T23 bt243.1 bt249.1).f4⟩ : S23)), bt279.2.1, bt279.2.2)) else (none)) else (none))) else (if bt252.1 = 4 then ((spec_l1PickInt.f s0_0 bt252.2.1 bt252.2.2 (([0, 1, 1099511627776, 1099511627777, (-1099511627777)] : List Int))).bind fun bt286 => (if 0 ≤ bt249.1 then (if bt249.1 < (bt243.1.length : Int) then (some ((bt243.1.set (bt249.1 : Int).toNat (⟨(rd_T23 bt243.1 bt249.1).f0, (rd_T23 bt243.1 bt249.1).f1, (rd_T23 bt243.1 bt249.1).f2, (rd_T23 bt243.1 bt249.1).f3, bt286.1⟩ : S23)), bt286.2.1, bt286.2.2)) else (none)) else (none))) else (if bt252.1 = 5 then (if bt243.1.length < 3518437208883 then (some ((bt243.1 ++ [(⟨(-1), 0, 0, 0, 0⟩ : S23)]), bt252.2.1, bt252.2.2)) else (none)) else (if bt252.1 = 6 then (if 0 ≤ bt249.1 then (if bt249.1 ≤ (bt243.1.length : Int) then (some ((bt243.1.take (bt249.1 : Int).toNat), bt252.2.1, bt252.2.2)) else (none)) else (none)) else (some (bt243.1, bt252.2.1, bt252.2.2))))))))))))
def spec_l17Bent.T5 : Bool × List (List Nat × List Nat) := (true, [([], []), ([0], [0]), ([], []), ([], []), ([], []), ([3, 4], [3, 4]), ([1, 2, 0, 1, 2, 3, 4, 5], [1, 2]), ([6, 0, 1, 2, 3, 4, 5], [6]), ([7, 5, 5, 0, 1, 2, 3, 4, 5], [5, 7])])
def spec_l17Bent.B5 : List Nat := [0, 1, 0, 0, 0, 24, 63, 127, 255]
theorem spec_l17Bent.tab5 : rtab .any (opsOf Tryd.f81 5) = spec_l17Bent.T5 := by kernel_rfl
theorem spec_l17Bent.bits5 : waitsOk spec_l17Bent.T5.2 spec_l17Bent.B5 = true := by kernel_rfl
def spec_l17Bent.T7 : Bool × List (List Nat × List Nat) := (true, [([], []), ([0], [0]), ([], []), ([], []), ([], []), ([3, 4], [3, 4]), ([1, 2, 0, 1, 2, 3, 4, 5], [1, 2]), ([6, 0, 1, 2, 3, 4, 5], [6]), ([7, 5, 5, 0, 1, 2, 3, 4, 5], [5, 7])])
def spec_l17Bent.B7 : List Nat := [0, 1, 0, 0, 0, 24, 63, 127, 255]
theorem spec_l17Bent.tab7 : rtab .any (opsOf Tryd.f81 7) = spec_l17Bent.T7 := by kernel_rfl
theorem spec_l17Bent.bits7 : waitsOk spec_l17Bent.T7.2 spec_l17Bent.B7 = true := by kernel_rfl
def spec_l17Bent.T9 : Bool × List (List Nat × List Nat) := (true, [([], []), ([0], [0]), ([], []), ([], []), ([], []), ([4], [4]), ([3, 5], [3, 5]), ([1, 2, 0, 1, 2, 3, 4, 5, 6], [1, 2]), ([7, 0, 1, 2, 3, 4, 5, 6], [7]), ([8, 6, 6, 0, 1, 2, 3, 4, 5, 6], [6, 8])])
def spec_l17Bent.B9 : List Nat := [0, 1, 0, 0, 0, 16, 56, 127, 255, 511]
theorem spec_l17Bent.tab9 : rtab .any (opsOf Tryd.f81 9) = spec_l17Bent.T9 := by kernel_rfl
theorem spec_l17Bent.bits9 : waitsOk spec_l17Bent.T9.2 spec_l17Bent.B9 = true := by kernel_rfl
def spec_l17Bent.T11 : Bool × List (List Nat × List Nat) := (true, [([], []), ([0], [0]), ([], []), ([], []), ([], []), ([4], [4]), ([3, 5], [3, 5]), ([1, 2, 0, 1, 2, 3, 4, 5, 6], [1, 2]), ([7, 0, 1, 2, 3, 4, 5, 6], [7]), ([8, 6, 6, 0, 1, 2, 3, 4, 5, 6], [6, 8])])
def spec_l17Bent.B11 : List Nat := [0, 1, 0, 0, 0, 16, 56, 127, 255, 511]
theorem spec_l17Bent.tab11 : rtab .any (opsOf Tryd.f81 11) = spec_l17Bent.T11 := by kernel_rfl
theorem spec_l17Bent.bits11 : waitsOk spec_l17Bent.T11.2 spec_l17Bent.B11 = true := by kernel_rfl
def spec_l17Bent.T13 : Bool × List (List Nat × List Nat) := (true, [([], []), ([0], [0]), ([], []), ([], []), ([], []), ([3, 4], [3, 4]), ([1, 2, 0, 1, 2, 3, 4, 5], [1, 2]), ([6, 0, 1, 2, 3, 4, 5], [6]), ([7, 5, 5, 0, 1, 2, 3, 4, 5], [5, 7])])
def spec_l17Bent.B13 : List Nat := [0, 1, 0, 0, 0, 24, 63, 127, 255]
theorem spec_l17Bent.tab13 : rtab .any (opsOf Tryd.f81 13) = spec_l17Bent.T13 := by kernel_rfl
theorem spec_l17Bent.bits13 : waitsOk spec_l17Bent.T13.2 spec_l17Bent.B13 = true := by kernel_rfl
set_option maxHeartbeats 8000000 in
set_option maxRecDepth 100000 in
theorem spec_l17Bent.calls (k : Nat) (g : Nat) (s0_0 : List Int) (s0_1 : Int) (s0_2 : Int) (r1 : List (S23)) (r2 : Int) (r3 : Int) (w0 w : World) (hI : IsS118 w0 w g s0_0 s0_1 s0_2) (hB : Below w0.heap.size w0 w) (h : spec_l17Bent.f k s0_0 s0_1 s0_2 = some (r1, r2, r3)) :
    Calls Tryd.prog 81 #[.pointer (some ⟨g, 0, none⟩)] w fun e w' => ∃ v0_ : Value, e = .returned (.agg #[v0_]) ∧ Kd.R k23 23 w' w.heap.size (fun _ => True) v0_ r1 ∧ IsS118 w0 w' g s0_0 r2 r3 ∧ Below w0.heap.size w0 w' ∧ KeepBut w w' g none := by
 have hu65 := Tryd.underlying65
 have hu23 := Tryd.underlying23
 have HI0 := Aside0.mk hI
 have HK := Aside0.mk (KeepBut.refl w g none)
 have HL := Aside0.mk hB.size
 clear hI
 have HW0 := Aside0.mk hB.size
 have HB := Aside0.mk hB
 clear hB
 have H : ((spec_l1Below.f s0_0 s0_1 s0_2 3).bind fun bt240 => ((spec_l17Right.f k s0_0 bt240.2.1 bt240.2.2 (wrap64 (1 + bt240.1))).bind fun bt243 => ((spec_l1Below.f s0_0 bt243.2.1 bt243.2.2 (bt243.1.length : Int)).bind fun bt249 => ((spec_l1Below.f s0_0 bt249.2.1 bt249.2.2 14).bind fun bt252 => (if bt252.1 = 0 then ((spec_l1PickInt.f s0_0 bt252.2.1 bt252.2.2 (([(-1), 0, 1, 4, (-2), 9223372036854775807] : List Int))).bind fun bt258 => (if 0 ≤ bt249.1 then (if bt249.1 < (bt243.1.length : Int) then (some ((bt243.1.set (bt249.1 : Int).toNat (⟨bt258.1, (rd_T23 bt243.1 bt249.1).f1, (rd_T23 bt243.1 bt249.1).f2, (rd_T23 bt243.1 bt249.1).f3, (rd_T23 bt243.1 bt249.1).f4⟩ : S23)), bt258.2.1, bt258.2.2)) else (none)) else (none))) else (if bt252.1 = 1 then ((spec_l1PickInt.f s0_0 bt252.2.1 bt252.2.2 (([0, 1, 2147483648, (-2147483648), 500] : List Int))).bind fun bt265 => (if 0 ≤ bt249.1 then (if bt249.1 < (bt243.1.length : Int) then (some ((bt243.1.set (bt249.1 : Int).toNat (⟨(rd_T23 bt243.1 bt249.1).f0, bt265.1, (rd_T23 bt243.1 bt249.1).f2, (rd_T23 bt243.1 bt249.1).f3, (rd_T23 bt243.1 bt249.1).f4⟩ : S23)), bt265.2.1, bt265.2.2)) else (none)) else (none))) else (if bt252.1 = 2 then ((spec_l1PickInt.f s0_0 bt252.2.1 bt252.2.2 (([0, 1, 2, (-1), 40, bt249.1] : List Int))).bind fun bt272 => (if 0 ≤ bt249.1 then (if bt249.1 < (bt243.1.length : Int) then (some ((bt243.1.set (bt249.1 : Int).toNat (⟨(rd_T23 bt243.1 bt249.1).f0, (rd_T23 bt243.1 bt249.1).f1, bt272.1, (rd_T23 bt243.1 bt249.1).f3, (rd_T23 bt243.1 bt249.1).f4⟩ : S23)), bt272.2.1, bt272.2.2)) else (none)) else (none))) else (if bt252.1 = 3 then ((spec_l1PickInt.f s0_0 bt252.2.1 bt252.2.2 (([0, 1, 2, (-1), 40, bt249.1] : List Int))).bind fun bt279 => (if 0 ≤ bt249.1 then (if bt249.1 < (bt243.1.length : Int) then (some ((bt243.1.set (bt249.1 : Int).toNat (⟨(rd_T23 bt243.1 bt249.1).f0, (rd_T23 bt243.1 bt249.1).f1, (rd_T23 bt243.1 bt249.1).f2, bt279.1, (rd_T23 bt243.1 bt249.1).f4⟩ : S23)), bt279.2.1, bt279.2.2)) else (none)) else (none))) else (if bt252.1 = 4 then ((spec_l1PickInt.f s0_0 bt252.2.1 bt252.2.2 (([0, 1, 1099511627776, 1099511627777, (-1099511627777)] : List Int))).bind fun bt286 => (if 0 ≤ bt249.1 then (if bt249.1 < (bt243.1.length : Int) then (some ((bt243.1.set (bt249.1 : Int).toNat (⟨(rd_T23 bt243.1 bt249.1).f0, (rd_T23 bt243.1 bt249.1).f1, (rd_T23 bt243.1 bt249.1).f2, (rd_T23 bt243.1 bt249.1).f3, bt286.1⟩ : S23)), bt286.2.1, bt286.2.2)) else (none)) else (none))) else (if bt252.1 = 5 then (if bt243.1.length < 3518437208883 then (some ((bt243.1 ++ [(⟨(-1), 0, 0, 0, 0⟩ : S23)]), bt252.2.1, bt252.2.2)) else (none)) else (if bt252.1 = 6 then (if 0 ≤ bt249.1 then (if bt249.1 ≤ (bt243.1.length : Int) then (some ((bt243.1.take (bt249.1 : Int).toNat), bt252.2.1, bt252.2.2)) else (none)) else (none)) else (some (bt243.1, bt252.2.1, bt252.2.2))))))))))))) = some (r1, r2, r3) := h
 clear h
 replace H := Option.bind_eq_some_iff.mp H
 obtain ⟨⟨t240, t241, t242⟩, A20, H⟩ := H
 replace H : ((spec_l17Right.f k s0_0 t241 t242 (wrap64 (1 + t240))).bind fun bt243 => ((spec_l1Below.f s0_0 bt243.2.1 bt243.2.2 (bt243.1.length : Int)).bind fun bt249 => ((spec_l1Below.f s0_0 bt249.2.1 bt249.2.2 14).bind fun bt252 => (if bt252.1 = 0 then ((spec_l1PickInt.f s0_0 bt252.2.1 bt252.2.2 (([(-1), 0, 1, 4, (-2), 9223372036854775807] : List Int))).bind fun bt258 => (if 0 ≤ bt249.1 then (if bt249.1 < (bt243.1.length : Int) then (some ((bt243.1.set (bt249.1 : Int).toNat (⟨bt258.1, (rd_T23 bt243.1 bt249.1).f1, (rd_T23 bt243.1 bt249.1).f2, (rd_T23 bt243.1 bt249.1).f3, (rd_T23 bt243.1 bt249.1).f4⟩ : S23)), bt258.2.1, bt258.2.2)) else (none)) else (none))) else (if bt252.1 = 1 then ((spec_l1PickInt.f s0_0 bt252.2.1 bt252.2.2 (([0, 1, 2147483648, (-2147483648), 500] : List Int))).bind fun bt265 => (if 0 ≤ bt249.1 then (if bt249.1 < (bt243.1.length : Int) then (some ((bt243.1.set (bt249.1 : Int).toNat (⟨(rd_T23 bt243.1 bt249.1).f0, bt265.1, (rd_T23 bt243.1 bt249.1).f2, (rd_T23 bt243.1 bt249.1).f3, (rd_T23 bt243.1 bt249.1).f4⟩ : S23)), bt265.2.1, bt265.2.2)) else (none)) else (none))) else (if bt252.1 = 2 then ((spec_l1PickInt.f s0_0 bt252.2.1 bt252.2.2 (([0, 1, 2, (-1), 40, bt249.1] : List Int))).bind fun bt272 => (if 0 ≤ bt249.1 then (if bt249.1 < (bt243.1.length : Int) then (some ((bt243.1.set (bt249.1 : Int).toNat (⟨(rd_T23 bt243.1 bt249.1).f0, (rd_T23 bt243.1 bt249.1).f1, bt272.1, (rd_T23 bt243.1 bt249.1).f3, (rd_T23 bt243.1 bt249.1).f4⟩ : S23)), bt272.2.1, bt272.2.2)) else (none)) else (none))) else (if bt252.1 = 3 then ((spec_l1PickInt.f s0_0 bt252.2.1 bt252.2.2 (([0, 1, 2, (-1), 40, bt249.1] : List Int))).bind fun bt279 => (if 0 ≤ bt249.1 then (if bt249.1 < (bt243.1.length : Int) then (some ((bt243.1.set (bt249.1 : Int).toNat (⟨(rd_T23 bt243.1 bt249.1).f0, (rd_T23 bt243.1 bt249.1).f1, (rd_T23 bt243.1 bt249.1).f2, bt279.1, (rd_T23 bt243.1 bt249.1).f4⟩ : S23)), bt279.2.1, bt279.2.2)) else (none)) else (none))) else (if bt252.1 = 4 then ((spec_l1PickInt.f s0_0 bt252.2.1 bt252.2.2 (([0, 1, 1099511627776, 1099511627777, (-1099511627777)] : List Int))).bind fun bt286 => (if 0 ≤ bt249.1 then (if bt249.1 < (bt243.1.length : Int) then (some ((bt243.1.set (bt249.1 : Int).toNat (⟨(rd_T23 bt243.1 bt249.1).f0, (rd_T23 bt243.1 bt249.1).f1, (rd_T23 bt243.1 bt249.1).f2, (rd_T23 bt243.1 bt249.1).f3, bt286.1⟩ : S23)), bt286.2.1, bt286.2.2)) else (none)) else (none))) else (if bt252.1 = 5 then (if bt243.1.length < 3518437208883 then (some ((bt243.1 ++ [(⟨(-1), 0, 0, 0, 0⟩ : S23)]), bt252.2.1, bt252.2.2)) else (none)) else (if bt252.1 = 6 then (if 0 ≤ bt249.1 then (if bt249.1 ≤ (bt243.1.length : Int) then (some ((bt243.1.take (bt249.1 : Int).toNat), bt252.2.1, bt252.2.2)) else (none)) else (none)) else (some (bt243.1, bt252.2.1, bt252.2.2)))))))))))) = some (r1, r2, r3) := H
 have A2 := Aside0.mk A20
 clear A20
 replace H := Option.bind_eq_some_iff.mp H
 obtain ⟨⟨t243, t246, t247⟩, A30, H⟩ := H
 replace H : ((spec_l1Below.f s0_0 t246 t247 (t243.length : Int)).bind fun bt249 => ((spec_l1Below.f s0_0 bt249.2.1 bt249.2.2 14).bind fun bt252 => (if bt252.1 = 0 then ((spec_l1PickInt.f s0_0 bt252.2.1 bt252.2.2 (([(-1), 0, 1, 4, (-2), 9223372036854775807] : List Int))).bind fun bt258 => (if 0 ≤ bt249.1 then (if bt249.1 < (t243.length : Int) then (some ((t243.set (bt249.1 : Int).toNat (⟨bt258.1, (rd_T23 t243 bt249.1).f1, (rd_T23 t243 bt249.1).f2, (rd_T23 t243 bt249.1).f3, (rd_T23 t243 bt249.1).f4⟩ : S23)), bt258.2.1, bt258.2.2)) else (none)) else (none))) else (if bt252.1 = 1 then ((spec_l1PickInt.f s0_0 bt252.2.1 bt252.2.2 (([0, 1, 2147483648, (-2147483648), 500] : List Int))).bind fun bt265 => (if 0 ≤ bt249.1 then (if bt249.1 < (t243.length : Int) then (some ((t243.set (bt249.1 : Int).toNat (⟨(rd_T23 t243 bt249.1).f0, bt265.1, (rd_T23 t243 bt249.1).f2, (rd_T23 t243 bt249.1).f3, (rd_T23 t243 bt249.1).f4⟩ : S23)), bt265.2.1, bt265.2.2)) else (none)) else (none))) else (if bt252.1 = 2 then ((spec_l1PickInt.f s0_0 bt252.2.1 bt252.2.2 (([0, 1, 2, (-1), 40, bt249.1] : List Int))).bind fun bt272 => (if 0 ≤ bt249.1 then (if bt249.1 < (t243.length : Int) then (some ((t243.set (bt249.1 : Int).toNat (⟨(rd_T23 t243 bt249.1).f0, (rd_T23 t243 bt249.1).f1, bt272.1, (rd_T23 t243 bt249.1).f3, (rd_T23 t243 bt249.1).f4⟩ : S23)), bt272.2.1, bt272.2.2)) else (none)) else (none))) else (if bt252.1 = 3 then ((spec_l1PickInt.f s0_0 bt252.2.1 bt252.2.2 (([0, 1, 2, (-1), 40, bt249.1] : List Int))).bind fun bt279 => (if 0 ≤ bt249.1 then (if bt249.1 < (t243.length : Int) then (some ((t243.set (bt249.1 : Int).toNat (⟨(rd_T23 t243 bt249.1).f0, (rd_T23 t243 bt249.1).f1, (rd_T23 t243 bt249.1).f2, bt279.1, (rd_T23 t243 bt249.1).f4⟩ : S23)), bt279.2.1, bt279.2.2)) else (none)) else (none))) else (if bt252.1 = 4 then ((spec_l1PickInt.f s0_0 bt252.2.1 bt252.2.2 (([0, 1, 1099511627776, 1099511627777, (-1099511627777)] : List Int))).bind fun bt286 => (if 0 ≤ bt249.1 then (if bt249.1 < (t243.length : Int) then (some ((t243.set (bt249.1 : Int).toNat (⟨(rd_T23 t243 bt249.1).f0, (rd_T23 t243 bt249.1).f1, (rd_T23 t243 bt249.1).f2, (rd_T23 t243 bt249.1).f3, bt286.1⟩ : S23)), bt286.2.1, bt286.2.2)) else (none)) else (none))) else (if bt252.1 = 5 then (if t243.length < 3518437208883 then (some ((t243 ++ [(⟨(-1), 0, 0, 0, 0⟩ : S23)]), bt252.2.1, bt252.2.2)) else (none)) else (if bt252.1 = 6 then (if 0 ≤ bt249.1 then (if bt249.1 ≤ (t243.length : Int) then (some ((t243.take (bt249.1 : Int).toNat), bt252.2.1, bt252.2.2)) else (none)) else (none)) else (some (t243, bt252.2.1, bt252.2.2))))))))))) = some (r1, r2, r3) := H
 have A3 := Aside0.mk A30
 clear A30
 replace H := Option.bind_eq_some_iff.mp H
 obtain ⟨⟨t249, t250, t251⟩, A40, H⟩ := H
 replace H : ((spec_l1Below.f s0_0 t250 t251 14).bind fun bt252 => (if bt252.1 = 0 then ((spec_l1PickInt.f s0_0 bt252.2.1 bt252.2.2 (([(-1), 0, 1, 4, (-2), 9223372036854775807] : List Int))).bind fun bt258 => (if 0 ≤ t249 then (if t249 < (t243.length : Int) then (some ((t243.set (t249 : Int).toNat (⟨bt258.1, (rd_T23 t243 t249).f1, (rd_T23 t243 t249).f2, (rd_T23 t243 t249).f3, (rd_T23 t243 t249).f4⟩ : S23)), bt258.2.1, bt258.2.2)) else (none)) else (none))) else (if bt252.1 = 1 then ((spec_l1PickInt.f s0_0 bt252.2.1 bt252.2.2 (([0, 1, 2147483648, (-2147483648), 500] : List Int))).bind fun bt265 => (if 0 ≤ t249 then (if t249 < (t243.length : Int) then (some ((t243.set (t249 : Int).toNat (⟨(rd_T23 t243 t249).f0, bt265.1, (rd_T23 t243 t249).f2, (rd_T23 t243 t249).f3, (rd_T23 t243 t249).f4⟩ : S23)), bt265.2.1, bt265.2.2)) else (none)) else (none))) else (if bt252.1 = 2 then ((spec_l1PickInt.f s0_0 bt252.2.1 bt252.2.2 (([0, 1, 2, (-1), 40, t249] : List Int))).bind fun bt272 => (if 0 ≤ t249 then (if t249 < (t243.length : Int) then (some ((t243.set (t249 : Int).toNat (⟨(rd_T23 t243 t249).f0, (rd_T23 t243 t249).f1, bt272.1, (rd_T23 t243 t249).f3, (rd_T23 t243 t249).f4⟩ : S23)), bt272.2.1, bt272.2.2)) else (none)) else (none))) else (if bt252.1 = 3 then ((spec_l1PickInt.f s0_0 bt252.2.1 bt252.2.2 (([0, 1, 2, (-1), 40, t249] : List Int))).bind fun bt279 => (if 0 ≤ t249 then (if t249 < (t243.length : Int) then (some ((t243.set (t249 : Int).toNat (⟨(rd_T23 t243 t249).f0, (rd_T23 t243 t249).f1, (rd_T23 t243 t249).f2, bt279.1, (rd_T23 t243 t249).f4⟩ : S23)), bt279.2.1, bt279.2.2)) else (none)) else (none))) else (if bt252.1 = 4 then ((spec_l1PickInt.f s0_0 bt252.2.1 bt252.2.2 (([0, 1, 1099511627776, 1099511627777, (-1099511627777)] : List Int))).bind fun bt286 => (if 0 ≤ t249 then (if t249 < (t243.length : Int) then (some ((t243.set (t249 : Int).toNat (⟨(rd_T23 t243 t249).f0, (rd_T23 t243 t249).f1, (rd_T23 t243 t249).f2, (rd_T23 t243 t249).f3, bt286.1⟩ : S23)), bt286.2.1, bt286.2.2)) else (none)) else (none))) else (if bt252.1 = 5 then (if t243.length < 3518437208883 then (some ((t243 ++ [(⟨(-1), 0, 0, 0, 0⟩ : S23)]), bt252.2.1, bt252.2.2)) else (none)) else (if bt252.1 = 6 then (if 0 ≤ t249 then (if t249 ≤ (t243.length : Int) then (some ((t243.take (t249 : Int).toNat), bt252.2.1, bt252.2.2)) else (none)) else (none)) else (some (t243, bt252.2.1, bt252.2.2)))))))))) = some (r1, r2, r3) := H
 have A4 := Aside0.mk A40
 clear A40
 replace H := Option.bind_eq_some_iff.mp H
 obtain ⟨⟨t252, t253, t254⟩, A50, H⟩ := H
 replace H : (if t252 = 0 then ((spec_l1PickInt.f s0_0 t253 t254 (([(-1), 0, 1, 4, (-2), 9223372036854775807] : List Int))).bind fun bt258 => (if 0 ≤ t249 then (if t249 < (t243.length : Int) then (some ((t243.set (t249 : Int).toNat (⟨bt258.1, (rd_T23 t243 t249).f1, (rd_T23 t243 t249).f2, (rd_T23 t243 t249).f3, (rd_T23 t243 t249).f4⟩ : S23)), bt258.2.1, bt258.2.2)) else (none)) else (none))) else (if t252 = 1 then ((spec_l1PickInt.f s0_0 t253 t254 (([0, 1, 2147483648, (-2147483648), 500] : List Int))).bind fun bt265 => (if 0 ≤ t249 then (if t249 < (t243.length : Int) then (some ((t243.set (t249 : Int).toNat (⟨(rd_T23 t243 t249).f0, bt265.1, (rd_T23 t243 t249).f2, (rd_T23 t243 t249).f3, (rd_T23 t243 t249).f4⟩ : S23)), bt265.2.1, bt265.2.2)) else (none)) else (none))) else (if t252 = 2 then ((spec_l1PickInt.f s0_0 t253 t254 (([0, 1, 2, (-1), 40, t249] : List Int))).bind fun bt272 => (if 0 ≤ t249 then (if t249 < (t243.length : Int) then (some ((t243.set (t249 : Int).toNat (⟨(rd_T23 t243 t249).f0, (rd_T23 t243 t249).f1, bt272.1, (rd_T23 t243 t249).f3, (rd_T23 t243 t249).f4⟩ : S23)), bt272.2.1, bt272.2.2)) else (none)) else (none))) else (if t252 = 3 then ((spec_l1PickInt.f s0_0 t253 t254 (([0, 1, 2, (-1), 40, t249] : List Int))).bind fun bt279 => (if 0 ≤ t249 then (if t249 < (t243.length : Int) then (some ((t243.set (t249 : Int).toNat (⟨(rd_T23 t243 t249).f0, (rd_T23 t243 t249).f1, (rd_T23 t243 t249).f2, bt279.1, (rd_T23 t243 t249).f4⟩ : S23)), bt279.2.1, bt279.2.2)) else (none)) else (none))) else (if t252 = 4 then ((spec_l1PickInt.f s0_0 t253 t254 (([0, 1, 1099511627776, 1099511627777, (-1099511627777)] : List Int))).bind fun bt286 => (if 0 ≤ t249 then (if t249 < (t243.length : Int) then (some ((t243.set (t249 : Int).toNat (⟨(rd_T23 t243 t249).f0, (rd_T23 t243 t249).f1, (rd_T23 t243 t249).f2, (rd_T23 t243 t249).f3, bt286.1⟩ : S23)), bt286.2.1, bt286.2.2)) else (none)) else (none))) else (if t252 = 5 then (if t243.length < 3518437208883 then (some ((t243 ++ [(⟨(-1), 0, 0, 0, 0⟩ : S23)]), t253, t254)) else (none)) else (if t252 = 6 then (if 0 ≤ t249 then (if t249 ≤ (t243.length : Int) then (some ((t243.take (t249 : Int).toNat), t253, t254)) else (none)) else (none)) else (some (t243, t253, t254))))))))) = some (r1, r2, r3) := H
 have A5 := Aside0.mk A50
 clear A50
 have HZ6 := Aside0.mk H
 clear H
 go_enter Tryd.func81, Tryd.ntmps81
 go_upto_if 17 with (first | ((with_reducible refine gate_dst (N := 2) rfl ?_); refine box_event ?hg (N := 2) ?hd (cs := #[.slice none 0 0]) (t := 65) ?hr ?_; (case hd => rfl); (case hg => rfl); (case hr => first | (go_simp; done) | (go_simp; rfl)); intro gb239 hg w7 hbox hb; have n_ := spec_l17Bent.K8_ (IsS118.below (by repeat (first | (with_reducible first | exact HI0.out | apply IsS118.alloc | apply IsS118.drewN | apply IsS118.drew | apply IsS118.set_1 | apply IsS118.set_2) | exact HI0.out)) hb) (KeepBut.trans (by repeat (first | (with_reducible first | exact HK.out | apply KeepBut.set_ | apply keep_drewN | apply keep_drew | apply keep_alloc) | exact HK.out)) (KeepBut.of_below hb g none) (.inl rfl)) (below_step (by repeat (first | (with_reducible first | exact HB.out | apply below_alloc | apply pw_below_drewN | apply below_drew1 | refine below_set ?_ (IsS118.ge HI0.out)) | exact HB.out)) hb) hbox ((by rw [hg]; exact (keep_size (w := w) (g := g) (row := none) (by repeat (first | (with_reducible first | exact HK.out | apply KeepBut.set_ | apply keep_drewN | apply keep_drew | apply keep_alloc) | exact HK.out))) : w.heap.size ≤ gb239)) ((Nat.le_trans HW0.out (by rw [hg]; exact (keep_size (w := w) (g := g) (row := none) (by repeat (first | (with_reducible first | exact HK.out | apply KeepBut.set_ | apply keep_drewN | apply keep_drew | apply keep_alloc) | exact HK.out))) : w.heap.size ≤ gb239) : w0.heap.size ≤ gb239)) ((by rw [hg]; exact Nat.ne_of_lt (IsS118.lt (show IsS118 w0 _ g s0_0 s0_1 s0_2 from by repeat (first | (with_reducible first | exact HI0.out | apply IsS118.alloc | apply IsS118.drewN | apply IsS118.drew | apply IsS118.set_1 | apply IsS118.set_2) | exact HI0.out))) : g ≠ gb239)) ((by rw [hg]; exact Nat.ne_of_gt (IsS118.lt (show IsS118 w0 _ g s0_0 s0_1 s0_2 from by repeat (first | (with_reducible first | exact HI0.out | apply IsS118.alloc | apply IsS118.drewN | apply IsS118.drew | apply IsS118.set_1 | apply IsS118.set_2) | exact HI0.out))) : gb239 ≠ g)); clear HI0 HK HB; obtain ⟨HI0, HK, HB, BK239, GW239, GE239, NB0_239, NB239_0⟩ := n_; clear hb hbox hg) | ((with_reducible refine gate_callee (f := 99) rfl ?_); refine goesL_ (some 7) rfl rfl Tryd.func99 (by kernel_rfl) rfl #[.pointer (some ⟨g, 0, none⟩), .int .i64 3] rfl (by (try simp only [List.map_toArray, List.map_cons, List.map_nil]); first | done | rfl | (simp only [List.length_drop, List.length_take]; rfl)) ?_; (with_reducible refine (spec_l1Below.calls g s0_0 s0_1 s0_2 3 t240 t241 t242 w0 _ ?side1 ?side2 A2.out).mono ?_); (case side1 => repeat (first | (with_reducible first | exact HI0.out | apply IsS118.alloc | apply IsS118.drewN | apply IsS118.drew | apply IsS118.set_1 | apply IsS118.set_2 | refine IsS118.far ?_ NB0_239.out _) | exact HI0.out)); (case side2 => repeat (first | (with_reducible first | exact HB.out | apply below_alloc | apply pw_below_drewN | apply below_drew1 | refine below_set ?_ (IsS118.ge HI0.out) | refine below_set ?_ GE239.out) | exact HB.out)); rintro e w8 ⟨rfl, hi, hb, hk⟩; refine ⟨_, rfl, ?_⟩; have n_ := spec_l17Bent.K4_ (KeepBut.blk hk (g' := gb239) (o := .cells #[.slice none 0 0] 65 (0, 0)) (by (with_reducible repeat (first | refine blk_drewN ?_ _ | refine blk_drew ?_ | refine blk_alloc ?_ _)); exact BK239.out) NB239_0.out (by simp)) (KeepBut.trans (by repeat (first | (with_reducible first | exact HK.out | apply KeepBut.set_ | apply keep_drewN | apply keep_drew | apply keep_alloc | refine keep_far ?_ GW239.out _) | exact HK.out)) hk (.inl rfl)) hb hi; clear BK239 HK HB HI0; obtain ⟨BK239, HK, HB, HI0⟩ := n_; (try clear hb); (try clear hb2); (try clear hk); (try clear hi)) | ((with_reducible refine gate_callee (f := 113) rfl ?_); refine goesL_ (some 9) rfl rfl Tryd.func113 (by kernel_rfl) rfl #[.pointer (some ⟨g, 0, none⟩), .int .i64 (wrap64 (1 + t240))] rfl (by (try simp only [List.map_toArray, List.map_cons, List.map_nil]); first | done | rfl | (simp only [List.length_drop, List.length_take]; rfl)) ?_; (with_reducible refine (spec_l17Right.calls k g s0_0 t241 t242 (wrap64 (1 + t240)) t243 t246 t247 w0 _ ?side1 ?side2 A3.out).mono ?_); (case side1 => repeat (first | (with_reducible first | exact HI0.out | apply IsS118.alloc | apply IsS118.drewN | apply IsS118.drew | apply IsS118.set_1 | apply IsS118.set_2 | refine IsS118.far ?_ NB0_239.out _) | exact HI0.out)); (case side2 => repeat (first | (with_reducible first | exact HB.out | apply below_alloc | apply pw_below_drewN | apply below_drew1 | refine below_set ?_ (IsS118.ge HI0.out) | refine below_set ?_ GE239.out) | exact HB.out)); rintro e w9 ⟨v244, rfl, ho0, hi, hb, hk⟩; refine ⟨_, rfl, ?_⟩; have n_ := spec_l17Bent.K5_ (KeepBut.blk hk (g' := gb239) (o := .cells #[.slice none 0 0] 65 (0, 0)) (by (with_reducible repeat (first | refine blk_drewN ?_ _ | refine blk_drew ?_ | refine blk_alloc ?_ _)); exact BK239.out) NB239_0.out (by simp)) (Kd.R_lower ho0 (keep_size (w := w) (g := g) (row := none) (by repeat (first | (with_reducible first | exact HK.out | apply KeepBut.set_ | apply keep_drewN | apply keep_drew | apply keep_alloc | refine keep_far ?_ GW239.out _) | exact HK.out)))) (KeepBut.trans (by repeat (first | (with_reducible first | exact HK.out | apply KeepBut.set_ | apply keep_drewN | apply keep_drew | apply keep_alloc | refine keep_far ?_ GW239.out _) | exact HK.out)) hk (.inl rfl)) hb hi; clear BK239 HK HB HI0; obtain ⟨BK239, HO245, HK, HB, HI0⟩ := n_; (try clear hb); (try clear hb2); (try clear hk); (try clear hi); (try clear ho0)) | ((with_reducible refine gate_dst (N := 3) rfl ?_); refine box_event ?hg (N := 3) ?hd (cs := #[.slice none 0 0]) (t := 65) ?hr ?_; (case hd => rfl); (case hg => rfl); (case hr => first | (go_simp; done) | (go_simp; rfl)); intro gb248 hg w10 hbox hb; have n_ := spec_l17Bent.K12_ (Kd.R_below (by (with_reducible repeat (first | apply Kd.R_alloc | apply Kd.R_drewN | apply Kd.R_drew)); exact HO245.out) hb) (IsS118.below (by repeat (first | (with_reducible first | exact HI0.out | apply IsS118.alloc | apply IsS118.drewN | apply IsS118.drew | apply IsS118.set_1 | apply IsS118.set_2 | refine IsS118.far ?_ NB0_239.out _) | exact HI0.out)) hb) (blk_below (g := gb239) (o := .cells #[.slice none 0 0] 65 (0, 0)) (by (with_reducible repeat (first | refine blk_drewN ?_ _ | refine blk_drew ?_ | refine blk_alloc ?_ _)); exact BK239.out) hb) (KeepBut.trans (by repeat (first | (with_reducible first | exact HK.out | apply KeepBut.set_ | apply keep_drewN | apply keep_drew | apply keep_alloc | refine keep_far ?_ GW239.out _) | exact HK.out)) (KeepBut.of_below hb g none) (.inl rfl)) (below_step (by repeat (first | (with_reducible first | exact HB.out | apply below_alloc | apply pw_below_drewN | apply below_drew1 | refine below_set ?_ (IsS118.ge HI0.out) | refine below_set ?_ GE239.out) | exact HB.out)) hb) hbox ((by rw [hg]; exact (keep_size (w := w) (g := g) (row := none) (by repeat (first | (with_reducible first | exact HK.out | apply KeepBut.set_ | apply keep_drewN | apply keep_drew | apply keep_alloc | refine keep_far ?_ GW239.out _) | exact HK.out))) : w.heap.size ≤ gb248)) ((Nat.le_trans HW0.out (by rw [hg]; exact (keep_size (w := w) (g := g) (row := none) (by repeat (first | (with_reducible first | exact HK.out | apply KeepBut.set_ | apply keep_drewN | apply keep_drew | apply keep_alloc | refine keep_far ?_ GW239.out _) | exact HK.out))) : w.heap.size ≤ gb248) : w0.heap.size ≤ gb248)) ((by rw [hg]; exact Nat.ne_of_lt (blk_lt (g := gb239) (o := .cells #[.slice none 0 0] 65 (0, 0)) (by (with_reducible repeat (first | refine blk_drewN ?_ _ | refine blk_drew ?_ | refine blk_alloc ?_ _)); exact BK239.out)) : gb239 ≠ gb248)) ((by rw [hg]; exact Nat.ne_of_gt (blk_lt (g := gb239) (o := .cells #[.slice none 0 0] 65 (0, 0)) (by (with_reducible repeat (first | refine blk_drewN ?_ _ | refine blk_drew ?_ | refine blk_alloc ?_ _)); exact BK239.out)) : gb248 ≠ gb239)) ((by rw [hg]; exact Nat.ne_of_lt (IsS118.lt (show IsS118 w0 _ g s0_0 t246 t247 from by repeat (first | (with_reducible first | exact HI0.out | apply IsS118.alloc | apply IsS118.drewN | apply IsS118.drew | apply IsS118.set_1 | apply IsS118.set_2 | refine IsS118.far ?_ NB0_239.out _) | exact HI0.out))) : g ≠ gb248)) ((by rw [hg]; exact Nat.ne_of_gt (IsS118.lt (show IsS118 w0 _ g s0_0 t246 t247 from by repeat (first | (with_reducible first | exact HI0.out | apply IsS118.alloc | apply IsS118.drewN | apply IsS118.drew | apply IsS118.set_1 | apply IsS118.set_2 | refine IsS118.far ?_ NB0_239.out _) | exact HI0.out))) : gb248 ≠ g)); clear HO245 HI0 BK239 HK HB; obtain ⟨HO245, HI0, BK239, HK, HB, BK248, GW248, GE248, NB239_248, NB248_239, NB0_248, NB248_0⟩ := n_; clear hb hbox hg; obtain ⟨Ao11, co11, eo11⟩ := Kd.R_slice HO245.out; subst eo11; have hnb12 := NB248_239.out; have hnc12 := NB239_248.out; have hnb13 := NB248_0.out; have hnc13 := NB0_248.out; have hcz14_0 : w10.cell? ⟨gb248, 0, none⟩ = some (.slice none 0 0) := (blk_cell BK248.out 0).trans rfl; have hfz14_0 := blk_frozen BK248.out 0) | ((with_reducible refine gate_callee (f := 99) rfl ?_); refine goesL_ (some 14) rfl rfl Tryd.func99 (by kernel_rfl) rfl #[.pointer (some ⟨g, 0, none⟩), .int .i64 (t243.length : Int)] rfl (by (try simp only [List.map_toArray, List.map_cons, List.map_nil]); first | done | rfl | (simp only [List.length_drop, List.length_take]; rfl)) ?_; (with_reducible refine (spec_l1Below.calls g s0_0 t246 t247 (t243.length : Int) t249 t250 t251 w0 _ ?side1 ?side2 A4.out).mono ?_); (case side1 => repeat (first | (with_reducible first | exact HI0.out | apply IsS118.alloc | apply IsS118.drewN | apply IsS118.drew | apply IsS118.set_1 | apply IsS118.set_2 | refine IsS118.far ?_ NB0_239.out _ | refine IsS118.far ?_ NB0_248.out _) | exact HI0.out)); (case side2 => repeat (first | (with_reducible first | exact HB.out | apply below_alloc | apply pw_below_drewN | apply below_drew1 | refine below_set ?_ (IsS118.ge HI0.out) | refine below_set ?_ GE239.out | refine below_set ?_ GE248.out) | exact HB.out)); rintro e w15 ⟨rfl, hi, hb, hk⟩; refine ⟨_, rfl, ?_⟩; have n_ := spec_l17Bent.K6_ (KeepBut.blk hk (g' := gb239) (o := .cells #[.slice none 0 0] 65 (0, 0)) (by (with_reducible repeat (first | refine blk_drewN ?_ _ | refine blk_drew ?_ | refine blk_alloc ?_ _)); refine blk_far ?_ NB239_248.out _; (with_reducible repeat (first | refine blk_drewN ?_ _ | refine blk_drew ?_ | refine blk_alloc ?_ _)); exact BK239.out) NB239_0.out (by simp)) (Kd.R_mono (Kd.R_keep (IsS118.apart (show IsS118 w0 _ g s0_0 t246 t247 from by repeat (first | (with_reducible first | exact HI0.out | apply IsS118.alloc | apply IsS118.drewN | apply IsS118.drew | apply IsS118.set_1 | apply IsS118.set_2 | refine IsS118.far ?_ NB0_239.out _ | refine IsS118.far ?_ NB0_248.out _) | exact HI0.out)) (by (with_reducible repeat (first | apply Kd.R_alloc | apply Kd.R_drewN | apply Kd.R_drew)); exact (Kd.R_mono (Kd.R_far (p := ⟨gb248, 0, none⟩) (Kd.R_types HO245.out BK248.out (by decide)) (fun _ hk => hk.2) (.slice Ao11 t243.length co11)) (fun _ h_ => h_.1))) (by decide)) hk (fun _ h => h.2)) (fun _ h => h.1)) (KeepBut.blk hk (g' := gb248) (o := .cells #[.slice Ao11 t243.length co11] 65 (0, 0)) (by (with_reducible repeat (first | refine blk_drewN ?_ _ | refine blk_drew ?_ | refine blk_alloc ?_ _)); refine blk_put (cs := #[.slice none 0 0]) ?_ 0 _ rfl; (with_reducible repeat (first | refine blk_drewN ?_ _ | refine blk_drew ?_ | refine blk_alloc ?_ _)); exact BK248.out) NB248_0.out (by simp)) (KeepBut.trans (by repeat (first | (with_reducible first | exact HK.out | apply KeepBut.set_ | apply keep_drewN | apply keep_drew | apply keep_alloc | refine keep_far ?_ GW239.out _ | refine keep_far ?_ GW248.out _) | exact HK.out)) hk (.inl rfl)) hb hi; clear BK239 HO245 BK248 HK HB HI0; obtain ⟨BK239, HO245, BK248, HK, HB, HI0⟩ := n_; (try clear hb); (try clear hb2); (try clear hk); (try clear hi)) | ((with_reducible refine gate_callee (f := 99) rfl ?_); refine goesL_ (some 16) rfl rfl Tryd.func99 (by kernel_rfl) rfl #[.pointer (some ⟨g, 0, none⟩), .int .i64 14] rfl (by (try simp only [List.map_toArray, List.map_cons, List.map_nil]); first | done | rfl | (simp only [List.length_drop, List.length_take]; rfl)) ?_; (with_reducible refine (spec_l1Below.calls g s0_0 t250 t251 14 t252 t253 t254 w0 _ ?side1 ?side2 A5.out).mono ?_); (case side1 => repeat (first | (with_reducible first | exact HI0.out | apply IsS118.alloc | apply IsS118.drewN | apply IsS118.drew | apply IsS118.set_1 | apply IsS118.set_2 | refine IsS118.far ?_ NB0_239.out _ | refine IsS118.far ?_ NB0_248.out _) | exact HI0.out)); (case side2 => repeat (first | (with_reducible first | exact HB.out | apply below_alloc | apply pw_below_drewN | apply below_drew1 | refine below_set ?_ (IsS118.ge HI0.out) | refine below_set ?_ GE239.out | refine below_set ?_ GE248.out) | exact HB.out)); rintro e w16 ⟨rfl, hi, hb, hk⟩; refine ⟨_, rfl, ?_⟩; have n_ := spec_l17Bent.K6_ (KeepBut.blk hk (g' := gb239) (o := .cells #[.slice none 0 0] 65 (0, 0)) (by (with_reducible repeat (first | refine blk_drewN ?_ _ | refine blk_drew ?_ | refine blk_alloc ?_ _)); exact BK239.out) NB239_0.out (by simp)) (Kd.R_mono (Kd.R_keep (IsS118.apart (show IsS118 w0 _ g s0_0 t250 t251 from by repeat (first | (with_reducible first | exact HI0.out | apply IsS118.alloc | apply IsS118.drewN | apply IsS118.drew | apply IsS118.set_1 | apply IsS118.set_2 | refine IsS118.far ?_ NB0_239.out _ | refine IsS118.far ?_ NB0_248.out _) | exact HI0.out)) (by (with_reducible repeat (first | apply Kd.R_alloc | apply Kd.R_drewN | apply Kd.R_drew)); exact HO245.out) (by decide)) hk (fun _ h => h.2)) (fun _ h => h.1)) (KeepBut.blk hk (g' := gb248) (o := .cells #[.slice Ao11 t243.length co11] 65 (0, 0)) (by (with_reducible repeat (first | refine blk_drewN ?_ _ | refine blk_drew ?_ | refine blk_alloc ?_ _)); exact BK248.out) NB248_0.out (by simp)) (KeepBut.trans (by repeat (first | (with_reducible first | exact HK.out | apply KeepBut.set_ | apply keep_drewN | apply keep_drew | apply keep_alloc | refine keep_far ?_ GW239.out _ | refine keep_far ?_ GW248.out _) | exact HK.out)) hk (.inl rfl)) hb hi; clear BK239 HO245 BK248 HK HB HI0; obtain ⟨BK239, HO245, BK248, HK, HB, HI0⟩ := n_; (try clear hb); (try clear hb2); (try clear hk); (try clear hi)))
 (try simp only [Act.put, List.setIfInBounds_toArray, List.set_cons_zero, List.set_cons_succ])
 have H := HZ6.out
 clear HZ6
 by_cases c17 : t252 = 0
 case pos =>
  rw [if_pos c17] at H
  have c17b0 : (t252 == 0) = true := beq_iff_eq.mpr c17
  have c17b1 : (t252 != 0) = false := bne_eq_false_iff_eq.mpr c17
  clear c17
  (first | rw [c17b0] | (simp only [i64_w, i32_w]; rw [c17b0]) | skip)
  obtain ⟨y255, hy255⟩ : ∃ y_ : List Int, y_ = (([(-1), 0, 1, 4, (-2), 9223372036854775807] : List Int)) := ⟨_, rfl⟩
  replace H : ((spec_l1PickInt.f s0_0 t253 t254 y255).bind fun bt258 => (if 0 ≤ t249 then (if t249 < (t243.length : Int) then (some ((t243.set (t249 : Int).toNat (⟨bt258.1, (rd_T23 t243 t249).f1, (rd_T23 t243 t249).f2, (rd_T23 t243 t249).f3, (rd_T23 t243 t249).f4⟩ : S23)), bt258.2.1, bt258.2.2)) else (none)) else (none))) = some (r1, r2, r3) := by first | (rw [hy255]; with_reducible exact H) | (have H2_ := (Option.bind_some _ _).symm.trans H; rw [hy255]; with_reducible exact H2_) | (have H2_ := (Option.bind_some _ _).symm.trans H; with_reducible exact H2_) | with_reducible exact H | (rw [hy255]; exact H) | exact H
  have Ny255 := Aside0.mk hy255
  clear hy255
  replace H := Option.bind_eq_some_iff.mp H
  obtain ⟨⟨t258, t259, t260⟩, A180, H⟩ := H
  replace H : (if 0 ≤ t249 then (if t249 < (t243.length : Int) then (some ((t243.set (t249 : Int).toNat (⟨t258, (rd_T23 t243 t249).f1, (rd_T23 t243 t249).f2, (rd_T23 t243 t249).f3, (rd_T23 t243 t249).f4⟩ : S23)), t259, t260)) else (none)) else (none)) = some (r1, r2, r3) := H
  have A18 := Aside0.mk A180
  clear A180
  by_cases c19 : 0 ≤ t249
  case neg =>
   rw [if_neg c19] at H
   exact absurd H (by simp)
  rw [if_pos c19] at H
  have c19b0 : decide (0 ≤ t249) = true := decide_eq_true c19
  clear c19
  by_cases c20 : t249 < (t243.length : Int)
  case neg =>
   rw [if_neg c20] at H
   exact absurd H (by simp)
  rw [if_pos c20] at H
  have c20b0 : decide (t249 < (t243.length : Int)) = true := decide_eq_true c20
  clear c20
  obtain ⟨y261, hy261⟩ : ∃ y_ : List (S23), y_ = (t243.set (t249 : Int).toNat (⟨t258, (rd_T23 t243 t249).f1, (rd_T23 t243 t249).f2, (rd_T23 t243 t249).f3, (rd_T23 t243 t249).f4⟩ : S23)) := ⟨_, rfl⟩
  replace H : (some (y261, t259, t260)) = some (r1, r2, r3) := by first | (rw [hy261]; with_reducible exact H) | (have H2_ := (Option.bind_some _ _).symm.trans H; rw [hy261]; with_reducible exact H2_) | (have H2_ := (Option.bind_some _ _).symm.trans H; with_reducible exact H2_) | with_reducible exact H | (rw [hy261]; exact H) | exact H
  have Ny261 := Aside0.mk hy261
  clear hy261
  simp only [Option.some.injEq, Prod.mk.injEq] at H
  obtain ⟨rfl, rfl, rfl⟩ := H
  try go_wp2
  have n_ := spec_l17Bent.K6_ (Kd.R_drew HO245.out) (blk_drew BK239.out) (blk_drew BK248.out) (IsS118.drew HI0.out) (keep_drew HK.out) (below_drew1 HB.out)
  clear HO245 BK239 BK248 HI0 HK HB
  obtain ⟨HO245, BK239, BK248, HI0, HK, HB⟩ := n_
  refine start_ (n := 9) (S := fun w' => w'.cell? ⟨gb248, 0, none⟩ = some (.slice Ao11 t243.length co11)) (ds := [8]) #[false, false, false, false, false, false, false, false, false] (by kernel_rfl) rfl rfl ((blk_cell BK248.out 0).trans rfl) (fun hHeld => ?_); refine with_tabW spec_l17Bent.tab5 spec_l17Bent.bits5 (fun HT_ HW_ => ?_)
  generalize w16.drew = w22 at HO245 BK239 BK248 HI0 HK HB hHeld ⊢
  refine pure_ (i := 0) (N := some 19) (v := ?_) (a' := ?_) #[true, false, false, false, false, false, false, false, false] rfl rfl (any_of HT_.out (by kernel_rfl)) (fun _ _ _ h => h) (Or.inl ⟨by rfl, ?_⟩) ?_ ?_
  rotate_left
  ·intro w'
   go_simp
   with_reducible rfl
  rotate_left
  ·simp only [Act.put, List.setIfInBounds_toArray, List.set_cons_zero, List.set_cons_succ, i64_w, i32_w]
   rfl
  refine pure_ (i := 2) (N := some 21) (v := ?_) (a' := ?_) #[true, false, true, false, false, false, false, false, false] rfl rfl (any_of HT_.out (by kernel_rfl)) (fun _ _ _ h => h) (Or.inl ⟨by rfl, ?_⟩) ?_ ?_
  rotate_left
  ·intro w'
   go_simp
   with_reducible rfl
  rotate_left
  ·simp only [Act.put, List.setIfInBounds_toArray, List.set_cons_zero, List.set_cons_succ, i64_w, i32_w]
   rfl
  refine pure_ (i := 3) (N := some 22) (v := ?_) (a' := ?_) #[true, false, true, true, false, false, false, false, false] rfl rfl (any_of HT_.out (by kernel_rfl)) (fun _ _ _ h => h) (Or.inl ⟨by rfl, ?_⟩) ?_ ?_
  rotate_left
  ·intro w'
   go_simp
   with_reducible rfl
  rotate_left
  ·simp only [Act.put, List.setIfInBounds_toArray, List.set_cons_zero, List.set_cons_succ, i64_w, i32_w]
   rfl
  refine take_ (i := 1) (N := some 20) (v := ?_) (a' := ?_) #[true, true, true, true, false, false, false, false, false] rfl rfl (take_ofW HT_.out HW_.out (by kernel_rfl)) (fun _ _ _ h => h) (Or.inl ⟨by rfl, ?_⟩) hHeld ?_ ?_
  rotate_left
  ·intro w' s0
   go_simp
   with_reducible rfl
  rotate_left
  ·simp only [Act.put, List.setIfInBounds_toArray, List.set_cons_zero, List.set_cons_succ, i64_w, i32_w]
   rfl
  refine one_ (i := 4) (N := some 23) #[true, true, true, true, true, false, false, false, false] rfl rfl (one_of HT_.out (by kernel_rfl)) (by decide) (fun K hK => ?_)
  refine Kd.R_lit_step (Kd.int .i64) _ 3 ?hg (N := 23) ?hd (xs := ([(-1), 0, 1, 4, (-2), 9223372036854775807] : List Int)) (inner := [.int .i64 (-1), .int .i64 0, .int .i64 1, .int .i64 4, .int .i64 (-2), .int .i64 9223372036854775807]) (ok := fun _ => True) (okp := fun _ => True) ?hr ?hp (fun _ hk => hk) trivial (Below.refl _ _) (Nat.le_refl _) (by simp) ?_; (case hd => rfl); (case hg => rfl); (case hr => first | (go_simp; done) | (go_simp; rfl)); (case hp => exact (Reps.one (show Kd.M (Kd.int .i64) _ _ _ (-1) [.int .i64 (-1)] from rfl) (Reps.one (show Kd.M (Kd.int .i64) _ _ _ 0 [.int .i64 0] from rfl) (Reps.one (show Kd.M (Kd.int .i64) _ _ _ 1 [.int .i64 1] from rfl) (Reps.one (show Kd.M (Kd.int .i64) _ _ _ 4 [.int .i64 4] from rfl) (Reps.one (show Kd.M (Kd.int .i64) _ _ _ (-2) [.int .i64 (-2)] from rfl) (Reps.one (show Kd.M (Kd.int .i64) _ _ _ 9223372036854775807 [.int .i64 9223372036854775807] from rfl) (Reps.none _ _))))))))
  intro v256 w23 ho24 hb hg_ hnew_
  clear hg_ hnew_
  (first | rw [← Ny255.out] at ho24 | (simp only [Int.reduceToNat] at ho24; rw [← Ny255.out] at ho24))
  have n_ := spec_l17Bent.K7_ (Kd.R_below (by (with_reducible repeat (first | apply Kd.R_alloc | apply Kd.R_drewN | apply Kd.R_drew)); exact HO245.out) hb) (Kd.R_lower ho24 (keep_size (w := w) (g := g) (row := none) (by repeat (first | (with_reducible first | exact HK.out | apply KeepBut.set_ | apply keep_drewN | apply keep_drew | apply keep_alloc | refine keep_far ?_ GW239.out _ | refine keep_far ?_ GW248.out _) | exact HK.out)))) (IsS118.below (by repeat (first | (with_reducible first | exact HI0.out | apply IsS118.alloc | apply IsS118.drewN | apply IsS118.drew | apply IsS118.set_1 | apply IsS118.set_2 | refine IsS118.far ?_ NB0_239.out _ | refine IsS118.far ?_ NB0_248.out _) | exact HI0.out)) hb) (blk_below (g := gb239) (o := .cells #[.slice none 0 0] 65 (0, 0)) (by (with_reducible repeat (first | refine blk_drewN ?_ _ | refine blk_drew ?_ | refine blk_alloc ?_ _)); exact BK239.out) hb) (blk_below (g := gb248) (o := .cells #[.slice Ao11 t243.length co11] 65 (0, 0)) (by (with_reducible repeat (first | refine blk_drewN ?_ _ | refine blk_drew ?_ | refine blk_alloc ?_ _)); exact BK248.out) hb) (KeepBut.trans (by repeat (first | (with_reducible first | exact HK.out | apply KeepBut.set_ | apply keep_drewN | apply keep_drew | apply keep_alloc | refine keep_far ?_ GW239.out _ | refine keep_far ?_ GW248.out _) | exact HK.out)) (KeepBut.of_below hb g none) (.inl rfl)) (below_step (by repeat (first | (with_reducible first | exact HB.out | apply below_alloc | apply pw_below_drewN | apply below_drew1 | refine below_set ?_ (IsS118.ge HI0.out) | refine below_set ?_ GE239.out | refine below_set ?_ GE248.out) | exact HB.out)) hb)
  clear HO245 HI0 BK239 BK248 HK HB
  obtain ⟨HO245, HO257, HI0, BK239, BK248, HK, HB⟩ := n_
  clear hb ho24
  obtain ⟨Ao25, co25, eo25⟩ := Kd.R_slice HO257.out
  (first | subst eo25 | (injection eo25 with f1_ f2_ f3_; have f4_ := f1_.symm; have f5_ := f3_.symm; clear f1_ f2_ f3_; subst f4_; subst f5_))
  refine hK.out _ _ ((blk_cell BK248.out 0).trans rfl) (fun hHeld => ?_)
  clear hK K
  refine norm_ (a' := ?_) ?_ ?_
  rotate_left
  ·show Act.put _ (some 23) _ = _
   simp only [Act.put, List.setIfInBounds_toArray, List.set_cons_zero, List.set_cons_succ, i64_w, i32_w]
   rfl
  refine one_ (i := 5) (N := some 24) #[true, true, true, true, true, true, false, false, false] rfl rfl (one_of HT_.out (by kernel_rfl)) (by decide) (fun K hK => ?_)
  refine goes_ Tryd.func82 (by kernel_rfl) rfl #[.pointer (some ⟨g, 0, none⟩), .slice Ao25 y255.length co25] (by rfl) rfl rfl (by (try simp only [List.map_toArray, List.map_cons, List.map_nil]); first | done | rfl | (simp only [List.length_drop, List.length_take]; rfl)) ?_
  with_reducible refine (spec_l1PickInt.calls g s0_0 t253 t254 _ _ y255 t258 t259 t260 w0 _ ?side1 ?side2 ?side3 ?side4 ?side5 A18.out).mono ?_
  (case side1 => repeat (first | (with_reducible first | exact HI0.out | apply IsS118.alloc | apply IsS118.drewN | apply IsS118.drew | apply IsS118.set_1 | apply IsS118.set_2 | refine IsS118.far ?_ NB0_239.out _ | refine IsS118.far ?_ NB0_248.out _) | exact HI0.out))
  (case side2 => repeat (first | (with_reducible first | exact HB.out | apply below_alloc | apply pw_below_drewN | apply below_drew1 | refine below_set ?_ (IsS118.ge HI0.out) | refine below_set ?_ GE239.out | refine below_set ?_ GE248.out) | exact HB.out))
  (case side3 => repeat (first | exact (Kd.R_reads' HO257.out).2.2 | (with_reducible refine Kd.C_alloc ?_ _) | (with_reducible refine Kd.C_drewN ?_ _) | (with_reducible refine Kd.C_drew ?_)))
  (case side4 => exact (Kd.R_reads' HO257.out).2.1)
  (case side5 => exact far_slice (IsS118.own_ne HI0.out HO257.out (by decide)))
  rintro e w26 ⟨rfl, hi, hb, hk⟩
  refine ⟨_, rfl, ?_⟩
  have n_ := spec_l17Bent.K7_ (KeepBut.blk hk (g' := gb239) (o := .cells #[.slice none 0 0] 65 (0, 0)) (by (with_reducible repeat (first | refine blk_drewN ?_ _ | refine blk_drew ?_ | refine blk_alloc ?_ _)); exact BK239.out) NB239_0.out (by simp)) (Kd.R_mono (Kd.R_keep (IsS118.apart (show IsS118 w0 _ g s0_0 t253 t254 from by repeat (first | (with_reducible first | exact HI0.out | apply IsS118.alloc | apply IsS118.drewN | apply IsS118.drew | apply IsS118.set_1 | apply IsS118.set_2 | refine IsS118.far ?_ NB0_239.out _ | refine IsS118.far ?_ NB0_248.out _) | exact HI0.out)) (by (with_reducible repeat (first | apply Kd.R_alloc | apply Kd.R_drewN | apply Kd.R_drew)); exact HO245.out) (by decide)) hk (fun _ h => h.2)) (fun _ h => h.1)) (KeepBut.blk hk (g' := gb248) (o := .cells #[.slice Ao11 t243.length co11] 65 (0, 0)) (by (with_reducible repeat (first | refine blk_drewN ?_ _ | refine blk_drew ?_ | refine blk_alloc ?_ _)); exact BK248.out) NB248_0.out (by simp)) (Kd.R_mono (Kd.R_keep (IsS118.apart (show IsS118 w0 _ g s0_0 t253 t254 from by repeat (first | (with_reducible first | exact HI0.out | apply IsS118.alloc | apply IsS118.drewN | apply IsS118.drew | apply IsS118.set_1 | apply IsS118.set_2 | refine IsS118.far ?_ NB0_239.out _ | refine IsS118.far ?_ NB0_248.out _) | exact HI0.out)) (by (with_reducible repeat (first | apply Kd.R_alloc | apply Kd.R_drewN | apply Kd.R_drew)); exact HO257.out) (by decide)) hk (fun _ h => h.2)) (fun _ h => h.1)) (KeepBut.trans (by repeat (first | (with_reducible first | exact HK.out | apply KeepBut.set_ | apply keep_drewN | apply keep_drew | apply keep_alloc | refine keep_far ?_ GW239.out _ | refine keep_far ?_ GW248.out _) | exact HK.out)) hk (.inl rfl)) hb hi
  clear BK239 HO245 BK248 HO257 HK HB HI0
  obtain ⟨BK239, HO245, BK248, HO257, HK, HB, HI0⟩ := n_
  (try clear hb)
  (try clear hb2)
  (try clear hk)
  (try clear hi)
  have p21 : 0 ≤ (t249 : Int) := of_decide_eq_true (by first | (with_reducible assumption) | assumption)
  have q21 : (t249 : Int) < ((t243.length : Int) : Int) := of_decide_eq_true (by first | (with_reducible assumption) | assumption)
  obtain ⟨go21, co21, eo21, gb21, gl21, cl21, HG21⟩ := Kd.R_form HO245.out (by omega)
  (first | cases eo21 | (injection eo21 with ea_ en_ ec_; (first | subst ea_ | (injection ea_ with ea_; subst ea_)); subst ec_; clear en_))
  have GB21 := Aside0.mk gb21
  have GG21 := Aside0.mk HG21
  clear gb21 gl21 HG21
  obtain ⟨ce21, hcl21, hM21, hcc21, hfr21⟩ := Kd.R_elem HO245.out z23 (t249 : Int) p21 q21
  obtain rfl := k23_openM hM21
  have hx21_0 : World.cell? _ ⟨go21, (t249 : Int).toNat * 5, none⟩ = some (.int .i64 ((rd_T23 t243 t249).f0)) := hcc21 0 _ rfl
  have hx21_1 : World.cell? _ ⟨go21, (t249 : Int).toNat * 5 + 1, none⟩ = some (.int .i64 ((rd_T23 t243 t249).f1)) := hcc21 1 _ rfl
  have hx21_2 : World.cell? _ ⟨go21, (t249 : Int).toNat * 5 + 2, none⟩ = some (.int .i64 ((rd_T23 t243 t249).f2)) := hcc21 2 _ rfl
  have hx21_3 : World.cell? _ ⟨go21, (t249 : Int).toNat * 5 + 3, none⟩ = some (.int .i64 ((rd_T23 t243 t249).f3)) := hcc21 3 _ rfl
  have hx21_4 : World.cell? _ ⟨go21, (t249 : Int).toNat * 5 + 4, none⟩ = some (.int .i64 ((rd_T23 t243 t249).f4)) := hcc21 4 _ rfl
  have hf21_0 : World.frozen? _ ⟨go21, (t249 : Int).toNat * 5, none⟩ = false := hfr21 0
  have hf21_1 : World.frozen? _ ⟨go21, (t249 : Int).toNat * 5 + 1, none⟩ = false := hfr21 1
  have hf21_2 : World.frozen? _ ⟨go21, (t249 : Int).toNat * 5 + 2, none⟩ = false := hfr21 2
  have hf21_3 : World.frozen? _ ⟨go21, (t249 : Int).toNat * 5 + 3, none⟩ = false := hfr21 3
  have hf21_4 : World.frozen? _ ⟨go21, (t249 : Int).toNat * 5 + 4, none⟩ = false := hfr21 4
  clear hcl21 hcc21 hfr21; (try clear hM21)
  replace p21 := eq_true p21
  replace q21 := eq_true q21
  have HN0_go21 := Aside0.mk (show g ≠ go21 from by have h_ := IsS118.own_ne HI0.out HO245.out (by decide); intro e_; exact h_ (by rw [e_]; rfl))
  obtain ⟨ce27, hcl27, hM27, hcc27, hfr27⟩ := Kd.R_elem HO245.out z23 (t249 : Int) (of_decide_eq_true (by first | (with_reducible assumption) | assumption)) (by have h_ : (t249 : Int) < ((t243.length : Int) : Int) := of_decide_eq_true (by first | (with_reducible assumption) | assumption); first | exact h_ | (have e_ := (Kd.R_reads' HO245.out).1; omega) | simpa using h_)
  obtain rfl := k23_openM hM27
  have HP27 := (Kd.R_seg HO245.out (t249 : Int) (of_decide_eq_true (by first | (with_reducible assumption) | assumption)) (by have h_ : (t249 : Int) < ((t243.length : Int) : Int) := of_decide_eq_true (by first | (with_reducible assumption) | assumption); first | exact h_ | (have e_ := (Kd.R_reads' HO245.out).1; omega) | simpa using h_) (seg := [.int .i64 t258]) (j := 0) hcl27 hcc27 (show 1 ≤ 5 from by decide) (x' := (⟨t258, (rd_T23 t243 t249).f1, (rd_T23 t243 t249).f2, (rd_T23 t243 t249).f3, (rd_T23 t243 t249).f4⟩ : S23)) (k23_mkM _ _ _ (⟨t258, (rd_T23 t243 t249).f1, (rd_T23 t243 t249).f2, (rd_T23 t243 t249).f3, (rd_T23 t243 t249).f4⟩ : S23) ) (fun _ hk => hk)).1
  rw [← Ny261.out] at HP27
  have HQ27 := Aside0.mk HP27
  clear hcl27 hcc27 hfr27 HP27; (try clear hM27)
  refine hK.out _ _ ((blk_cell BK248.out 0).trans rfl) (fun hHeld => ?_)
  clear hK K
  refine norm_ (a' := ?_) ?_ ?_
  rotate_left
  ·show Act.put _ (some 24) _ = _
   simp only [Act.put, List.setIfInBounds_toArray, List.set_cons_zero, List.set_cons_succ, i64_w, i32_w]
   rfl
  refine pure_ (i := 6) (N := some 25) (v := ?_) (a' := ?_) #[true, true, true, true, true, true, true, false, false] rfl rfl (any_of HT_.out (by kernel_rfl)) (fun _ _ _ h => h) (Or.inl ⟨by rfl, ?_⟩) ?_ ?_
  rotate_left
  ·intro w'
   go_simp
   with_reducible rfl
  rotate_left
  ·simp only [Act.put, List.setIfInBounds_toArray, List.set_cons_zero, List.set_cons_succ, i64_w, i32_w]
   rfl
  refine pure_ (i := 7) (N := some 26) (v := ?_) (a' := ?_) #[true, true, true, true, true, true, true, true, false] rfl rfl (any_of HT_.out (by kernel_rfl)) (fun _ _ _ h => h) (Or.inl ⟨by rfl, ?_⟩) ?_ ?_
  rotate_left
  ·intro w'
   go_simp
   with_reducible rfl
  rotate_left
  ·simp only [Act.put, List.setIfInBounds_toArray, List.set_cons_zero, List.set_cons_succ, i64_w, i32_w]
   rfl
  refine last_ (i := 8) (N := none) #[true, true, true, true, true, true, true, true, true] rfl rfl (one_of HT_.out (by kernel_rfl)) (by decide) (fun K hK => ?_)
  refine skip_ (w1 := ?_) (by rfl) rfl ?_ ?_
  rotate_left
  ·go_simp
   rfl
  refine hK.out _ _ ?_
  clear hK K
  refine done_ (done_of HT_.out (by kernel_rfl)) ?_
  have n0_ : Aside0 (Kd.R k23 23 (w26.setCell ⟨go21, (t249 : Int).toNat * 5, none⟩ (.int .i64 t258)) w.heap.size (fun _ => True) (.slice (some ⟨go21, 0, none⟩) t243.length co11) y261) := ⟨by (with_reducible repeat (first | apply Kd.R_alloc | apply Kd.R_drewN | apply Kd.R_drew)); exact HQ27.out⟩
  have n1_ : Aside0 (Kd.R (Kd.int .i64) 3 (w26.setCell ⟨go21, (t249 : Int).toNat * 5, none⟩ (.int .i64 t258)) w.heap.size (fun _ => True) (.slice Ao25 y255.length co25) y255) := ⟨by (with_reducible repeat (first | apply Kd.R_alloc | apply Kd.R_drewN | apply Kd.R_drew)); exact Kd.R_mono (Kd.R_far (p := ⟨go21, (t249 : Int).toNat * 5, none⟩) (Kd.R_types HO257.out GG21.out (by decide)) (fun _ hk => hk.2) (.int .i64 t258)) (fun _ hk => trivial)⟩
  have n2_ : Aside0 ((w26.setCell ⟨go21, (t249 : Int).toNat * 5, none⟩ (.int .i64 t258)).heap[gb239]? = some (.cells #[.slice none 0 0] 65 (0, 0))) := ⟨by (with_reducible repeat (first | refine blk_drewN ?_ _ | refine blk_drew ?_ | refine blk_alloc ?_ _)); refine blk_far ?_ (by have h_ := Kd.R_ne HO245.out BK239.out (by decide); intro e_; exact h_ (by rw [e_]; rfl)) _; (with_reducible repeat (first | refine blk_drewN ?_ _ | refine blk_drew ?_ | refine blk_alloc ?_ _)); exact BK239.out⟩
  have n3_ : Aside0 ((w26.setCell ⟨go21, (t249 : Int).toNat * 5, none⟩ (.int .i64 t258)).heap[gb248]? = some (.cells #[.slice (some ⟨go21, 0, none⟩) t243.length co11] 65 (0, 0))) := ⟨by (with_reducible repeat (first | refine blk_drewN ?_ _ | refine blk_drew ?_ | refine blk_alloc ?_ _)); refine blk_far ?_ (by have h_ := Kd.R_ne HO245.out BK248.out (by decide); intro e_; exact h_ (by rw [e_]; rfl)) _; (with_reducible repeat (first | refine blk_drewN ?_ _ | refine blk_drew ?_ | refine blk_alloc ?_ _)); exact BK248.out⟩
  have n4_ : Aside0 (IsS118 w0 (w26.setCell ⟨go21, (t249 : Int).toNat * 5, none⟩ (.int .i64 t258)) g s0_0 t259 t260) := ⟨by repeat (first | (with_reducible first | exact HI0.out | apply IsS118.alloc | apply IsS118.drewN | apply IsS118.drew | apply IsS118.set_1 | apply IsS118.set_2 | refine IsS118.far ?_ HN0_go21.out _ | refine IsS118.far ?_ NB0_239.out _ | refine IsS118.far ?_ NB0_248.out _) | exact HI0.out)⟩
  have n5_ : Aside0 (KeepBut w (w26.setCell ⟨go21, (t249 : Int).toNat * 5, none⟩ (.int .i64 t258)) g none) := ⟨by repeat (first | (with_reducible first | exact HK.out | apply KeepBut.set_ | apply keep_drewN | apply keep_drew | apply keep_alloc | refine keep_far ?_ GB21.out _ | refine keep_far ?_ GW239.out _ | refine keep_far ?_ GW248.out _) | exact HK.out)⟩
  have n6_ : Aside0 (Below w0.heap.size w0 (w26.setCell ⟨go21, (t249 : Int).toNat * 5, none⟩ (.int .i64 t258))) := ⟨by repeat (first | (with_reducible first | exact HB.out | apply below_alloc | apply pw_below_drewN | apply below_drew1 | refine below_set ?_ (Nat.le_trans HL.out GB21.out) | refine below_set ?_ (IsS118.ge HI0.out) | refine below_set ?_ GE239.out | refine below_set ?_ GE248.out) | exact HB.out)⟩
  (try clear HO245)
  (try clear HO257)
  (try clear BK239)
  (try clear BK248)
  (try clear HI0)
  (try clear HK)
  (try clear HB)
  generalize (w26.setCell ⟨go21, (t249 : Int).toNat * 5, none⟩ (.int .i64 t258)) = w28 at n0_ n1_ n2_ n3_ n4_ n5_ n6_ ⊢
  have HO245 := n0_
  have HO257 := n1_
  have BK239 := n2_
  have BK248 := n3_
  have HI0 := n4_
  have HK := n5_
  have HB := n6_
  clear n0_ n1_ n2_ n3_ n4_ n5_ n6_
  have hnb29 := NB248_239.out
  have hnc29 := NB239_248.out
  have hnb30 := NB248_0.out
  have hnc30 := NB0_248.out
  have hcz31_0 : w28.cell? ⟨gb248, 0, none⟩ = some (.slice (some ⟨go21, 0, none⟩) t243.length co11) := (blk_cell BK248.out 0).trans rfl
  have hfz31_0 := blk_frozen BK248.out 0
  have hnb32 := NB239_0.out
  have hnc32 := NB0_239.out
  have hcz33_0 : w28.cell? ⟨gb239, 0, none⟩ = some (.slice none 0 0) := (blk_cell BK239.out 0).trans rfl
  have hfz33_0 := blk_frozen BK239.out 0
  try go_wp2
  refine bodyPost_ret (results_cell_row rfl _ _ gb239 65 #[.slice (some ⟨go21, 0, none⟩) t243.length co11] (0, 0) _ rfl (by (with_reducible repeat (first | refine blk_drewN ?_ _ | refine blk_drew ?_ | refine blk_alloc ?_ _)); refine blk_put (cs := #[.slice none 0 0]) ?_ 0 _ rfl; (with_reducible repeat (first | refine blk_drewN ?_ _ | refine blk_drew ?_ | refine blk_alloc ?_ _)); exact BK239.out) Tryd.underlying65 rfl (by kernel_rfl)) rfl ?_
  exact ⟨_, by first | rfl | (simp [errW_none, errW_some] <;> rfl) | (simp [*, errW_none, errW_some] <;> rfl), by (with_reducible repeat (first | apply Kd.R_alloc | apply Kd.R_drewN | apply Kd.R_drew)); exact Kd.R_mono (Kd.R_far (p := ⟨gb239, 0, none⟩) (Kd.R_types HO245.out BK239.out (by decide)) (fun _ hk => hk.2) (.slice (some ⟨go21, 0, none⟩) t243.length co11)) (fun _ hk => trivial), by repeat (first | (with_reducible first | exact HI0.out | apply IsS118.alloc | apply IsS118.drewN | apply IsS118.drew | apply IsS118.set_1 | apply IsS118.set_2 | refine IsS118.far ?_ NB0_239.out _ | refine IsS118.far ?_ NB0_248.out _) | exact HI0.out), by repeat (first | (with_reducible first | exact HB.out | apply below_alloc | apply pw_below_drewN | apply below_drew1 | refine below_set ?_ (IsS118.ge HI0.out) | refine below_set ?_ GE239.out | refine below_set ?_ GE248.out) | exact HB.out), by repeat (first | (with_reducible first | exact HK.out | apply KeepBut.set_ | apply keep_drewN | apply keep_drew | apply keep_alloc | refine keep_far ?_ GW239.out _ | refine keep_far ?_ GW248.out _) | exact HK.out)⟩
 rw [if_neg c17] at H
 have c17b0 : (t252 == 0) = false := beq_eq_false_iff_ne.mpr c17
 have c17b1 : (t252 != 0) = true := bne_iff_ne.mpr c17
 (first | rw [c17b0] | (simp only [i64_w, i32_w]; rw [c17b0]) | skip)
 by_cases c34 : t252 = 1
 case pos =>
  rw [if_pos c34] at H
  have c34b0 : (t252 == 1) = true := beq_iff_eq.mpr c34
  have c34b1 : (t252 != 1) = false := bne_eq_false_iff_eq.mpr c34
  clear c34
  obtain ⟨y262, hy262⟩ : ∃ y_ : List Int, y_ = (([0, 1, 2147483648, (-2147483648), 500] : List Int)) := ⟨_, rfl⟩
  replace H : ((spec_l1PickInt.f s0_0 t253 t254 y262).bind fun bt265 => (if 0 ≤ t249 then (if t249 < (t243.length : Int) then (some ((t243.set (t249 : Int).toNat (⟨(rd_T23 t243 t249).f0, bt265.1, (rd_T23 t243 t249).f2, (rd_T23 t243 t249).f3, (rd_T23 t243 t249).f4⟩ : S23)), bt265.2.1, bt265.2.2)) else (none)) else (none))) = some (r1, r2, r3) := by first | (rw [hy262]; with_reducible exact H) | (have H2_ := (Option.bind_some _ _).symm.trans H; rw [hy262]; with_reducible exact H2_) | (have H2_ := (Option.bind_some _ _).symm.trans H; with_reducible exact H2_) | with_reducible exact H | (rw [hy262]; exact H) | exact H
  have Ny262 := Aside0.mk hy262
  clear hy262
  replace H := Option.bind_eq_some_iff.mp H
  obtain ⟨⟨t265, t266, t267⟩, A350, H⟩ := H
  replace H : (if 0 ≤ t249 then (if t249 < (t243.length : Int) then (some ((t243.set (t249 : Int).toNat (⟨(rd_T23 t243 t249).f0, t265, (rd_T23 t243 t249).f2, (rd_T23 t243 t249).f3, (rd_T23 t243 t249).f4⟩ : S23)), t266, t267)) else (none)) else (none)) = some (r1, r2, r3) := H
  have A35 := Aside0.mk A350
  clear A350
  by_cases c36 : 0 ≤ t249
  case neg =>
   rw [if_neg c36] at H
   exact absurd H (by simp)
  rw [if_pos c36] at H
  have c36b0 : decide (0 ≤ t249) = true := decide_eq_true c36
  clear c36
  by_cases c37 : t249 < (t243.length : Int)
  case neg =>
   rw [if_neg c37] at H
   exact absurd H (by simp)
  rw [if_pos c37] at H
  have c37b0 : decide (t249 < (t243.length : Int)) = true := decide_eq_true c37
  clear c37
  obtain ⟨y268, hy268⟩ : ∃ y_ : List (S23), y_ = (t243.set (t249 : Int).toNat (⟨(rd_T23 t243 t249).f0, t265, (rd_T23 t243 t249).f2, (rd_T23 t243 t249).f3, (rd_T23 t243 t249).f4⟩ : S23)) := ⟨_, rfl⟩
  replace H : (some (y268, t266, t267)) = some (r1, r2, r3) := by first | (rw [hy268]; with_reducible exact H) | (have H2_ := (Option.bind_some _ _).symm.trans H; rw [hy268]; with_reducible exact H2_) | (have H2_ := (Option.bind_some _ _).symm.trans H; with_reducible exact H2_) | with_reducible exact H | (rw [hy268]; exact H) | exact H
  have Ny268 := Aside0.mk hy268
  clear hy268
  simp only [Option.some.injEq, Prod.mk.injEq] at H
  obtain ⟨rfl, rfl, rfl⟩ := H
  try go_wp2
  have n_ := spec_l17Bent.K6_ (Kd.R_drew HO245.out) (blk_drew BK239.out) (blk_drew BK248.out) (IsS118.drew HI0.out) (keep_drew HK.out) (below_drew1 HB.out)
  clear HO245 BK239 BK248 HI0 HK HB
  obtain ⟨HO245, BK239, BK248, HI0, HK, HB⟩ := n_
  refine start_ (n := 9) (S := fun w' => w'.cell? ⟨gb248, 0, none⟩ = some (.slice Ao11 t243.length co11)) (ds := [8]) #[false, false, false, false, false, false, false, false, false] (by kernel_rfl) rfl rfl ((blk_cell BK248.out 0).trans rfl) (fun hHeld => ?_); refine with_tabW spec_l17Bent.tab7 spec_l17Bent.bits7 (fun HT_ HW_ => ?_)
  generalize w16.drew = w39 at HO245 BK239 BK248 HI0 HK HB hHeld ⊢
  refine pure_ (i := 0) (N := some 29) (v := ?_) (a' := ?_) #[true, false, false, false, false, false, false, false, false] rfl rfl (any_of HT_.out (by kernel_rfl)) (fun _ _ _ h => h) (Or.inl ⟨by rfl, ?_⟩) ?_ ?_
  rotate_left
  ·intro w'
   go_simp
   with_reducible rfl
  rotate_left
  ·simp only [Act.put, List.setIfInBounds_toArray, List.set_cons_zero, List.set_cons_succ, i64_w, i32_w]
   rfl
  refine pure_ (i := 2) (N := some 31) (v := ?_) (a' := ?_) #[true, false, true, false, false, false, false, false, false] rfl rfl (any_of HT_.out (by kernel_rfl)) (fun _ _ _ h => h) (Or.inl ⟨by rfl, ?_⟩) ?_ ?_
  rotate_left
  ·intro w'
   go_simp
   with_reducible rfl
  rotate_left
  ·simp only [Act.put, List.setIfInBounds_toArray, List.set_cons_zero, List.set_cons_succ, i64_w, i32_w]
   rfl
  refine pure_ (i := 3) (N := some 32) (v := ?_) (a' := ?_) #[true, false, true, true, false, false, false, false, false] rfl rfl (any_of HT_.out (by kernel_rfl)) (fun _ _ _ h => h) (Or.inl ⟨by rfl, ?_⟩) ?_ ?_
  rotate_left
  ·intro w'
   go_simp
   with_reducible rfl
  rotate_left
  ·simp only [Act.put, List.setIfInBounds_toArray, List.set_cons_zero, List.set_cons_succ, i64_w, i32_w]
   rfl
  refine take_ (i := 1) (N := some 30) (v := ?_) (a' := ?_) #[true, true, true, true, false, false, false, false, false] rfl rfl (take_ofW HT_.out HW_.out (by kernel_rfl)) (fun _ _ _ h => h) (Or.inl ⟨by rfl, ?_⟩) hHeld ?_ ?_
  rotate_left
  ·intro w' s0
   go_simp
   with_reducible rfl
  rotate_left
  ·simp only [Act.put, List.setIfInBounds_toArray, List.set_cons_zero, List.set_cons_succ, i64_w, i32_w]
   rfl
  refine one_ (i := 4) (N := some 33) #[true, true, true, true, true, false, false, false, false] rfl rfl (one_of HT_.out (by kernel_rfl)) (by decide) (fun K hK => ?_)
  refine Kd.R_lit_step (Kd.int .i64) _ 3 ?hg (N := 33) ?hd (xs := ([0, 1, 2147483648, (-2147483648), 500] : List Int)) (inner := [.int .i64 0, .int .i64 1, .int .i64 2147483648, .int .i64 (-2147483648), .int .i64 500]) (ok := fun _ => True) (okp := fun _ => True) ?hr ?hp (fun _ hk => hk) trivial (Below.refl _ _) (Nat.le_refl _) (by simp) ?_; (case hd => rfl); (case hg => rfl); (case hr => first | (go_simp; done) | (go_simp; rfl)); (case hp => exact (Reps.one (show Kd.M (Kd.int .i64) _ _ _ 0 [.int .i64 0] from rfl) (Reps.one (show Kd.M (Kd.int .i64) _ _ _ 1 [.int .i64 1] from rfl) (Reps.one (show Kd.M (Kd.int .i64) _ _ _ 2147483648 [.int .i64 2147483648] from rfl) (Reps.one (show Kd.M (Kd.int .i64) _ _ _ (-2147483648) [.int .i64 (-2147483648)] from rfl) (Reps.one (show Kd.M (Kd.int .i64) _ _ _ 500 [.int .i64 500] from rfl) (Reps.none _ _)))))))
  intro v263 w40 ho41 hb hg_ hnew_
  clear hg_ hnew_
  (first | rw [← Ny262.out] at ho41 | (simp only [Int.reduceToNat] at ho41; rw [← Ny262.out] at ho41))
  have n_ := spec_l17Bent.K7_ (Kd.R_below (by (with_reducible repeat (first | apply Kd.R_alloc | apply Kd.R_drewN | apply Kd.R_drew)); exact HO245.out) hb) (Kd.R_lower ho41 (keep_size (w := w) (g := g) (row := none) (by repeat (first | (with_reducible first | exact HK.out | apply KeepBut.set_ | apply keep_drewN | apply keep_drew | apply keep_alloc | refine keep_far ?_ GW239.out _ | refine keep_far ?_ GW248.out _) | exact HK.out)))) (IsS118.below (by repeat (first | (with_reducible first | exact HI0.out | apply IsS118.alloc | apply IsS118.drewN | apply IsS118.drew | apply IsS118.set_1 | apply IsS118.set_2 | refine IsS118.far ?_ NB0_239.out _ | refine IsS118.far ?_ NB0_248.out _) | exact HI0.out)) hb) (blk_below (g := gb239) (o := .cells #[.slice none 0 0] 65 (0, 0)) (by (with_reducible repeat (first | refine blk_drewN ?_ _ | refine blk_drew ?_ | refine blk_alloc ?_ _)); exact BK239.out) hb) (blk_below (g := gb248) (o := .cells #[.slice Ao11 t243.length co11] 65 (0, 0)) (by (with_reducible repeat (first | refine blk_drewN ?_ _ | refine blk_drew ?_ | refine blk_alloc ?_ _)); exact BK248.out) hb) (KeepBut.trans (by repeat (first | (with_reducible first | exact HK.out | apply KeepBut.set_ | apply keep_drewN | apply keep_drew | apply keep_alloc | refine keep_far ?_ GW239.out _ | refine keep_far ?_ GW248.out _) | exact HK.out)) (KeepBut.of_below hb g none) (.inl rfl)) (below_step (by repeat (first | (with_reducible first | exact HB.out | apply below_alloc | apply pw_below_drewN | apply below_drew1 | refine below_set ?_ (IsS118.ge HI0.out) | refine below_set ?_ GE239.out | refine below_set ?_ GE248.out) | exact HB.out)) hb)
  clear HO245 HI0 BK239 BK248 HK HB
  obtain ⟨HO245, HO264, HI0, BK239, BK248, HK, HB⟩ := n_
  clear hb ho41
  obtain ⟨Ao42, co42, eo42⟩ := Kd.R_slice HO264.out
  (first | subst eo42 | (injection eo42 with f1_ f2_ f3_; have f4_ := f1_.symm; have f5_ := f3_.symm; clear f1_ f2_ f3_; subst f4_; subst f5_))
  refine hK.out _ _ ((blk_cell BK248.out 0).trans rfl) (fun hHeld => ?_)
  clear hK K
  refine norm_ (a' := ?_) ?_ ?_
  rotate_left
  ·show Act.put _ (some 33) _ = _
   simp only [Act.put, List.setIfInBounds_toArray, List.set_cons_zero, List.set_cons_succ, i64_w, i32_w]
   rfl
  refine one_ (i := 5) (N := some 34) #[true, true, true, true, true, true, false, false, false] rfl rfl (one_of HT_.out (by kernel_rfl)) (by decide) (fun K hK => ?_)
  refine goes_ Tryd.func82 (by kernel_rfl) rfl #[.pointer (some ⟨g, 0, none⟩), .slice Ao42 y262.length co42] (by rfl) rfl rfl (by (try simp only [List.map_toArray, List.map_cons, List.map_nil]); first | done | rfl | (simp only [List.length_drop, List.length_take]; rfl)) ?_
  with_reducible refine (spec_l1PickInt.calls g s0_0 t253 t254 _ _ y262 t265 t266 t267 w0 _ ?side1 ?side2 ?side3 ?side4 ?side5 A35.out).mono ?_
  (case side1 => repeat (first | (with_reducible first | exact HI0.out | apply IsS118.alloc | apply IsS118.drewN | apply IsS118.drew | apply IsS118.set_1 | apply IsS118.set_2 | refine IsS118.far ?_ NB0_239.out _ | refine IsS118.far ?_ NB0_248.out _) | exact HI0.out))
  (case side2 => repeat (first | (with_reducible first | exact HB.out | apply below_alloc | apply pw_below_drewN | apply below_drew1 | refine below_set ?_ (IsS118.ge HI0.out) | refine below_set ?_ GE239.out | refine below_set ?_ GE248.out) | exact HB.out))
  (case side3 => repeat (first | exact (Kd.R_reads' HO264.out).2.2 | (with_reducible refine Kd.C_alloc ?_ _) | (with_reducible refine Kd.C_drewN ?_ _) | (with_reducible refine Kd.C_drew ?_)))
  (case side4 => exact (Kd.R_reads' HO264.out).2.1)
  (case side5 => exact far_slice (IsS118.own_ne HI0.out HO264.out (by decide)))
  rintro e w43 ⟨rfl, hi, hb, hk⟩
  refine ⟨_, rfl, ?_⟩
  have n_ := spec_l17Bent.K7_ (KeepBut.blk hk (g' := gb239) (o := .cells #[.slice none 0 0] 65 (0, 0)) (by (with_reducible repeat (first | refine blk_drewN ?_ _ | refine blk_drew ?_ | refine blk_alloc ?_ _)); exact BK239.out) NB239_0.out (by simp)) (Kd.R_mono (Kd.R_keep (IsS118.apart (show IsS118 w0 _ g s0_0 t253 t254 from by repeat (first | (with_reducible first | exact HI0.out | apply IsS118.alloc | apply IsS118.drewN | apply IsS118.drew | apply IsS118.set_1 | apply IsS118.set_2 | refine IsS118.far ?_ NB0_239.out _ | refine IsS118.far ?_ NB0_248.out _) | exact HI0.out)) (by (with_reducible repeat (first | apply Kd.R_alloc | apply Kd.R_drewN | apply Kd.R_drew)); exact HO245.out) (by decide)) hk (fun _ h => h.2)) (fun _ h => h.1)) (KeepBut.blk hk (g' := gb248) (o := .cells #[.slice Ao11 t243.length co11] 65 (0, 0)) (by (with_reducible repeat (first | refine blk_drewN ?_ _ | refine blk_drew ?_ | refine blk_alloc ?_ _)); exact BK248.out) NB248_0.out (by simp)) (Kd.R_mono (Kd.R_keep (IsS118.apart (show IsS118 w0 _ g s0_0 t253 t254 from by repeat (first | (with_reducible first | exact HI0.out | apply IsS118.alloc | apply IsS118.drewN | apply IsS118.drew | apply IsS118.set_1 | apply IsS118.set_2 | refine IsS118.far ?_ NB0_239.out _ | refine IsS118.far ?_ NB0_248.out _) | exact HI0.out)) (by (with_reducible repeat (first | apply Kd.R_alloc | apply Kd.R_drewN | apply Kd.R_drew)); exact HO264.out) (by decide)) hk (fun _ h => h.2)) (fun _ h => h.1)) (KeepBut.trans (by repeat (first | (with_reducible first | exact HK.out | apply KeepBut.set_ | apply keep_drewN | apply keep_drew | apply keep_alloc | refine keep_far ?_ GW239.out _ | refine keep_far ?_ GW248.out _) | exact HK.out)) hk (.inl rfl)) hb hi
  clear BK239 HO245 BK248 HO264 HK HB HI0
  obtain ⟨BK239, HO245, BK248, HO264, HK, HB, HI0⟩ := n_
  (try clear hb)
  (try clear hb2)
  (try clear hk)
  (try clear hi)
  have p38 : 0 ≤ (t249 : Int) := of_decide_eq_true (by first | (with_reducible assumption) | assumption)
  have q38 : (t249 : Int) < ((t243.length : Int) : Int) := of_decide_eq_true (by first | (with_reducible assumption) | assumption)
  obtain ⟨go38, co38, eo38, gb38, gl38, cl38, HG38⟩ := Kd.R_form HO245.out (by omega)
  (first | cases eo38 | (injection eo38 with ea_ en_ ec_; (first | subst ea_ | (injection ea_ with ea_; subst ea_)); subst ec_; clear en_))
  have GB38 := Aside0.mk gb38
  have GG38 := Aside0.mk HG38
  clear gb38 gl38 HG38
  obtain ⟨ce38, hcl38, hM38, hcc38, hfr38⟩ := Kd.R_elem HO245.out z23 (t249 : Int) p38 q38
  obtain rfl := k23_openM hM38
  have hx38_0 : World.cell? _ ⟨go38, (t249 : Int).toNat * 5, none⟩ = some (.int .i64 ((rd_T23 t243 t249).f0)) := hcc38 0 _ rfl
  have hx38_1 : World.cell? _ ⟨go38, (t249 : Int).toNat * 5 + 1, none⟩ = some (.int .i64 ((rd_T23 t243 t249).f1)) := hcc38 1 _ rfl
  have hx38_2 : World.cell? _ ⟨go38, (t249 : Int).toNat * 5 + 2, none⟩ = some (.int .i64 ((rd_T23 t243 t249).f2)) := hcc38 2 _ rfl
  have hx38_3 : World.cell? _ ⟨go38, (t249 : Int).toNat * 5 + 3, none⟩ = some (.int .i64 ((rd_T23 t243 t249).f3)) := hcc38 3 _ rfl
  have hx38_4 : World.cell? _ ⟨go38, (t249 : Int).toNat * 5 + 4, none⟩ = some (.int .i64 ((rd_T23 t243 t249).f4)) := hcc38 4 _ rfl
  have hf38_0 : World.frozen? _ ⟨go38, (t249 : Int).toNat * 5, none⟩ = false := hfr38 0
  have hf38_1 : World.frozen? _ ⟨go38, (t249 : Int).toNat * 5 + 1, none⟩ = false := hfr38 1
  have hf38_2 : World.frozen? _ ⟨go38, (t249 : Int).toNat * 5 + 2, none⟩ = false := hfr38 2
  have hf38_3 : World.frozen? _ ⟨go38, (t249 : Int).toNat * 5 + 3, none⟩ = false := hfr38 3
  have hf38_4 : World.frozen? _ ⟨go38, (t249 : Int).toNat * 5 + 4, none⟩ = false := hfr38 4
  clear hcl38 hcc38 hfr38; (try clear hM38)
  replace p38 := eq_true p38
  replace q38 := eq_true q38
  have HN0_go38 := Aside0.mk (show g ≠ go38 from by have h_ := IsS118.own_ne HI0.out HO245.out (by decide); intro e_; exact h_ (by rw [e_]; rfl))
  obtain ⟨ce44, hcl44, hM44, hcc44, hfr44⟩ := Kd.R_elem HO245.out z23 (t249 : Int) (of_decide_eq_true (by first | (with_reducible assumption) | assumption)) (by have h_ : (t249 : Int) < ((t243.length : Int) : Int) := of_decide_eq_true (by first | (with_reducible assumption) | assumption); first | exact h_ | (have e_ := (Kd.R_reads' HO245.out).1; omega) | simpa using h_)
  obtain rfl := k23_openM hM44
  have HP44 := (Kd.R_seg HO245.out (t249 : Int) (of_decide_eq_true (by first | (with_reducible assumption) | assumption)) (by have h_ : (t249 : Int) < ((t243.length : Int) : Int) := of_decide_eq_true (by first | (with_reducible assumption) | assumption); first | exact h_ | (have e_ := (Kd.R_reads' HO245.out).1; omega) | simpa using h_) (seg := [.int .i64 t265]) (j := 1) hcl44 hcc44 (show 2 ≤ 5 from by decide) (x' := (⟨(rd_T23 t243 t249).f0, t265, (rd_T23 t243 t249).f2, (rd_T23 t243 t249).f3, (rd_T23 t243 t249).f4⟩ : S23)) (k23_mkM _ _ _ (⟨(rd_T23 t243 t249).f0, t265, (rd_T23 t243 t249).f2, (rd_T23 t243 t249).f3, (rd_T23 t243 t249).f4⟩ : S23) ) (fun _ hk => hk)).1
  rw [← Ny268.out] at HP44
  have HQ44 := Aside0.mk HP44
  clear hcl44 hcc44 hfr44 HP44; (try clear hM44)
  refine hK.out _ _ ((blk_cell BK248.out 0).trans rfl) (fun hHeld => ?_)
  clear hK K
  refine norm_ (a' := ?_) ?_ ?_
  rotate_left
  ·show Act.put _ (some 34) _ = _
   simp only [Act.put, List.setIfInBounds_toArray, List.set_cons_zero, List.set_cons_succ, i64_w, i32_w]
   rfl
  refine pure_ (i := 6) (N := some 35) (v := ?_) (a' := ?_) #[true, true, true, true, true, true, true, false, false] rfl rfl (any_of HT_.out (by kernel_rfl)) (fun _ _ _ h => h) (Or.inl ⟨by rfl, ?_⟩) ?_ ?_
  rotate_left
  ·intro w'
   go_simp
   with_reducible rfl
  rotate_left
  ·simp only [Act.put, List.setIfInBounds_toArray, List.set_cons_zero, List.set_cons_succ, i64_w, i32_w]
   rfl
  refine pure_ (i := 7) (N := some 36) (v := ?_) (a' := ?_) #[true, true, true, true, true, true, true, true, false] rfl rfl (any_of HT_.out (by kernel_rfl)) (fun _ _ _ h => h) (Or.inl ⟨by rfl, ?_⟩) ?_ ?_
  rotate_left
  ·intro w'
   go_simp
   with_reducible rfl
  rotate_left
  ·simp only [Act.put, List.setIfInBounds_toArray, List.set_cons_zero, List.set_cons_succ, i64_w, i32_w]
   rfl
  refine last_ (i := 8) (N := none) #[true, true, true, true, true, true, true, true, true] rfl rfl (one_of HT_.out (by kernel_rfl)) (by decide) (fun K hK => ?_)
  refine skip_ (w1 := ?_) (by rfl) rfl ?_ ?_
  rotate_left
  ·go_simp
   rfl
  refine hK.out _ _ ?_
  clear hK K
  refine done_ (done_of HT_.out (by kernel_rfl)) ?_
  have n0_ : Aside0 (Kd.R k23 23 (w43.setCell ⟨go38, (t249 : Int).toNat * 5 + 1, none⟩ (.int .i64 t265)) w.heap.size (fun _ => True) (.slice (some ⟨go38, 0, none⟩) t243.length co11) y268) := ⟨by (with_reducible repeat (first | apply Kd.R_alloc | apply Kd.R_drewN | apply Kd.R_drew)); exact HQ44.out⟩
  have n1_ : Aside0 (Kd.R (Kd.int .i64) 3 (w43.setCell ⟨go38, (t249 : Int).toNat * 5 + 1, none⟩ (.int .i64 t265)) w.heap.size (fun _ => True) (.slice Ao42 y262.length co42) y262) := ⟨by (with_reducible repeat (first | apply Kd.R_alloc | apply Kd.R_drewN | apply Kd.R_drew)); exact Kd.R_mono (Kd.R_far (p := ⟨go38, (t249 : Int).toNat * 5 + 1, none⟩) (Kd.R_types HO264.out GG38.out (by decide)) (fun _ hk => hk.2) (.int .i64 t265)) (fun _ hk => trivial)⟩
  have n2_ : Aside0 ((w43.setCell ⟨go38, (t249 : Int).toNat * 5 + 1, none⟩ (.int .i64 t265)).heap[gb239]? = some (.cells #[.slice none 0 0] 65 (0, 0))) := ⟨by (with_reducible repeat (first | refine blk_drewN ?_ _ | refine blk_drew ?_ | refine blk_alloc ?_ _)); refine blk_far ?_ (by have h_ := Kd.R_ne HO245.out BK239.out (by decide); intro e_; exact h_ (by rw [e_]; rfl)) _; (with_reducible repeat (first | refine blk_drewN ?_ _ | refine blk_drew ?_ | refine blk_alloc ?_ _)); exact BK239.out⟩
  have n3_ : Aside0 ((w43.setCell ⟨go38, (t249 : Int).toNat * 5 + 1, none⟩ (.int .i64 t265)).heap[gb248]? = some (.cells #[.slice (some ⟨go38, 0, none⟩) t243.length co11] 65 (0, 0))) := ⟨by (with_reducible repeat (first | refine blk_drewN ?_ _ | refine blk_drew ?_ | refine blk_alloc ?_ _)); refine blk_far ?_ (by have h_ := Kd.R_ne HO245.out BK248.out (by decide); intro e_; exact h_ (by rw [e_]; rfl)) _; (with_reducible repeat (first | refine blk_drewN ?_ _ | refine blk_drew ?_ | refine blk_alloc ?_ _)); exact BK248.out⟩
  have n4_ : Aside0 (IsS118 w0 (w43.setCell ⟨go38, (t249 : Int).toNat * 5 + 1, none⟩ (.int .i64 t265)) g s0_0 t266 t267) := ⟨by repeat (first | (with_reducible first | exact HI0.out | apply IsS118.alloc | apply IsS118.drewN | apply IsS118.drew | apply IsS118.set_1 | apply IsS118.set_2 | refine IsS118.far ?_ HN0_go38.out _ | refine IsS118.far ?_ NB0_239.out _ | refine IsS118.far ?_ NB0_248.out _) | exact HI0.out)⟩
  have n5_ : Aside0 (KeepBut w (w43.setCell ⟨go38, (t249 : Int).toNat * 5 + 1, none⟩ (.int .i64 t265)) g none) := ⟨by repeat (first | (with_reducible first | exact HK.out | apply KeepBut.set_ | apply keep_drewN | apply keep_drew | apply keep_alloc | refine keep_far ?_ GB38.out _ | refine keep_far ?_ GW239.out _ | refine keep_far ?_ GW248.out _) | exact HK.out)⟩
  have n6_ : Aside0 (Below w0.heap.size w0 (w43.setCell ⟨go38, (t249 : Int).toNat * 5 + 1, none⟩ (.int .i64 t265))) := ⟨by repeat (first | (with_reducible first | exact HB.out | apply below_alloc | apply pw_below_drewN | apply below_drew1 | refine below_set ?_ (Nat.le_trans HL.out GB38.out) | refine below_set ?_ (IsS118.ge HI0.out) | refine below_set ?_ GE239.out | refine below_set ?_ GE248.out) | exact HB.out)⟩
  (try clear HO245)
  (try clear HO264)
  (try clear BK239)
  (try clear BK248)
  (try clear HI0)
  (try clear HK)
  (try clear HB)
  generalize (w43.setCell ⟨go38, (t249 : Int).toNat * 5 + 1, none⟩ (.int .i64 t265)) = w45 at n0_ n1_ n2_ n3_ n4_ n5_ n6_ ⊢
  have HO245 := n0_
  have HO264 := n1_
  have BK239 := n2_
  have BK248 := n3_
  have HI0 := n4_
  have HK := n5_
  have HB := n6_
  clear n0_ n1_ n2_ n3_ n4_ n5_ n6_
  have hnb46 := NB248_239.out
  have hnc46 := NB239_248.out
  have hnb47 := NB248_0.out
  have hnc47 := NB0_248.out
  have hcz48_0 : w45.cell? ⟨gb248, 0, none⟩ = some (.slice (some ⟨go38, 0, none⟩) t243.length co11) := (blk_cell BK248.out 0).trans rfl
  have hfz48_0 := blk_frozen BK248.out 0
  have hnb49 := NB239_0.out
  have hnc49 := NB0_239.out
  have hcz50_0 : w45.cell? ⟨gb239, 0, none⟩ = some (.slice none 0 0) := (blk_cell BK239.out 0).trans rfl
  have hfz50_0 := blk_frozen BK239.out 0
  try go_wp2
  refine bodyPost_ret (results_cell_row rfl _ _ gb239 65 #[.slice (some ⟨go38, 0, none⟩) t243.length co11] (0, 0) _ rfl (by (with_reducible repeat (first | refine blk_drewN ?_ _ | refine blk_drew ?_ | refine blk_alloc ?_ _)); refine blk_put (cs := #[.slice none 0 0]) ?_ 0 _ rfl; (with_reducible repeat (first | refine blk_drewN ?_ _ | refine blk_drew ?_ | refine blk_alloc ?_ _)); exact BK239.out) Tryd.underlying65 rfl (by kernel_rfl)) rfl ?_
  exact ⟨_, by first | rfl | (simp [errW_none, errW_some] <;> rfl) | (simp [*, errW_none, errW_some] <;> rfl), by (with_reducible repeat (first | apply Kd.R_alloc | apply Kd.R_drewN | apply Kd.R_drew)); exact Kd.R_mono (Kd.R_far (p := ⟨gb239, 0, none⟩) (Kd.R_types HO245.out BK239.out (by decide)) (fun _ hk => hk.2) (.slice (some ⟨go38, 0, none⟩) t243.length co11)) (fun _ hk => trivial), by repeat (first | (with_reducible first | exact HI0.out | apply IsS118.alloc | apply IsS118.drewN | apply IsS118.drew | apply IsS118.set_1 | apply IsS118.set_2 | refine IsS118.far ?_ NB0_239.out _ | refine IsS118.far ?_ NB0_248.out _) | exact HI0.out), by repeat (first | (with_reducible first | exact HB.out | apply below_alloc | apply pw_below_drewN | apply below_drew1 | refine below_set ?_ (IsS118.ge HI0.out) | refine below_set ?_ GE239.out | refine below_set ?_ GE248.out) | exact HB.out), by repeat (first | (with_reducible first | exact HK.out | apply KeepBut.set_ | apply keep_drewN | apply keep_drew | apply keep_alloc | refine keep_far ?_ GW239.out _ | refine keep_far ?_ GW248.out _) | exact HK.out)⟩
 rw [if_neg c34] at H
 have c34b0 : (t252 == 1) = false := beq_eq_false_iff_ne.mpr c34
 have c34b1 : (t252 != 1) = true := bne_iff_ne.mpr c34
 by_cases c51 : t252 = 2
 case pos =>
  rw [if_pos c51] at H
  have c51b0 : (t252 == 2) = true := beq_iff_eq.mpr c51
  have c51b1 : (t252 != 2) = false := bne_eq_false_iff_eq.mpr c51
  clear c51
  obtain ⟨y269, hy269⟩ : ∃ y_ : List Int, y_ = (([0, 1, 2, (-1), 40, t249] : List Int)) := ⟨_, rfl⟩
  replace H : ((spec_l1PickInt.f s0_0 t253 t254 y269).bind fun bt272 => (if 0 ≤ t249 then (if t249 < (t243.length : Int) then (some ((t243.set (t249 : Int).toNat (⟨(rd_T23 t243 t249).f0, (rd_T23 t243 t249).f1, bt272.1, (rd_T23 t243 t249).f3, (rd_T23 t243 t249).f4⟩ : S23)), bt272.2.1, bt272.2.2)) else (none)) else (none))) = some (r1, r2, r3) := by first | (rw [hy269]; with_reducible exact H) | (have H2_ := (Option.bind_some _ _).symm.trans H; rw [hy269]; with_reducible exact H2_) | (have H2_ := (Option.bind_some _ _).symm.trans H; with_reducible exact H2_) | with_reducible exact H | (rw [hy269]; exact H) | exact H
  have Ny269 := Aside0.mk hy269
  clear hy269
  replace H := Option.bind_eq_some_iff.mp H
  obtain ⟨⟨t272, t273, t274⟩, A520, H⟩ := H
  replace H : (if 0 ≤ t249 then (if t249 < (t243.length : Int) then (some ((t243.set (t249 : Int).toNat (⟨(rd_T23 t243 t249).f0, (rd_T23 t243 t249).f1, t272, (rd_T23 t243 t249).f3, (rd_T23 t243 t249).f4⟩ : S23)), t273, t274)) else (none)) else (none)) = some (r1, r2, r3) := H
  have A52 := Aside0.mk A520
  clear A520
  by_cases c53 : 0 ≤ t249
  case neg =>
   rw [if_neg c53] at H
   exact absurd H (by simp)
  rw [if_pos c53] at H
  have c53b0 : decide (0 ≤ t249) = true := decide_eq_true c53
  clear c53
  by_cases c54 : t249 < (t243.length : Int)
  case neg =>
   rw [if_neg c54] at H
   exact absurd H (by simp)
  rw [if_pos c54] at H
  have c54b0 : decide (t249 < (t243.length : Int)) = true := decide_eq_true c54
  clear c54
  obtain ⟨y275, hy275⟩ : ∃ y_ : List (S23), y_ = (t243.set (t249 : Int).toNat (⟨(rd_T23 t243 t249).f0, (rd_T23 t243 t249).f1, t272, (rd_T23 t243 t249).f3, (rd_T23 t243 t249).f4⟩ : S23)) := ⟨_, rfl⟩
  replace H : (some (y275, t273, t274)) = some (r1, r2, r3) := by first | (rw [hy275]; with_reducible exact H) | (have H2_ := (Option.bind_some _ _).symm.trans H; rw [hy275]; with_reducible exact H2_) | (have H2_ := (Option.bind_some _ _).symm.trans H; with_reducible exact H2_) | with_reducible exact H | (rw [hy275]; exact H) | exact H
  have Ny275 := Aside0.mk hy275
  clear hy275
  simp only [Option.some.injEq, Prod.mk.injEq] at H
  obtain ⟨rfl, rfl, rfl⟩ := H
  try go_wp2
  have n_ := spec_l17Bent.K6_ (Kd.R_drew HO245.out) (blk_drew BK239.out) (blk_drew BK248.out) (IsS118.drew HI0.out) (keep_drew HK.out) (below_drew1 HB.out)
  clear HO245 BK239 BK248 HI0 HK HB
  obtain ⟨HO245, BK239, BK248, HI0, HK, HB⟩ := n_
  refine start_ (n := 10) (S := fun w' => w'.cell? ⟨gb248, 0, none⟩ = some (.slice Ao11 t243.length co11)) (ds := [9]) #[false, false, false, false, false, false, false, false, false, false] (by kernel_rfl) rfl rfl ((blk_cell BK248.out 0).trans rfl) (fun hHeld => ?_); refine with_tabW spec_l17Bent.tab9 spec_l17Bent.bits9 (fun HT_ HW_ => ?_)
  generalize w16.drew = w56 at HO245 BK239 BK248 HI0 HK HB hHeld ⊢
  refine pure_ (i := 0) (N := some 39) (v := ?_) (a' := ?_) #[true, false, false, false, false, false, false, false, false, false] rfl rfl (any_of HT_.out (by kernel_rfl)) (fun _ _ _ h => h) (Or.inl ⟨by rfl, ?_⟩) ?_ ?_
  rotate_left
  ·intro w'
   go_simp
   with_reducible rfl
  rotate_left
  ·simp only [Act.put, List.setIfInBounds_toArray, List.set_cons_zero, List.set_cons_succ, i64_w, i32_w]
   rfl
  refine pure_ (i := 2) (N := some 41) (v := ?_) (a' := ?_) #[true, false, true, false, false, false, false, false, false, false] rfl rfl (any_of HT_.out (by kernel_rfl)) (fun _ _ _ h => h) (Or.inl ⟨by rfl, ?_⟩) ?_ ?_
  rotate_left
  ·intro w'
   go_simp
   with_reducible rfl
  rotate_left
  ·simp only [Act.put, List.setIfInBounds_toArray, List.set_cons_zero, List.set_cons_succ, i64_w, i32_w]
   rfl
  refine pure_ (i := 3) (N := some 42) (v := ?_) (a' := ?_) #[true, false, true, true, false, false, false, false, false, false] rfl rfl (any_of HT_.out (by kernel_rfl)) (fun _ _ _ h => h) (Or.inl ⟨by rfl, ?_⟩) ?_ ?_
  rotate_left
  ·intro w'
   go_simp
   with_reducible rfl
  rotate_left
  ·simp only [Act.put, List.setIfInBounds_toArray, List.set_cons_zero, List.set_cons_succ, i64_w, i32_w]
   rfl
  refine pure_ (i := 4) (N := some 43) (v := ?_) (a' := ?_) #[true, false, true, true, true, false, false, false, false, false] rfl rfl (any_of HT_.out (by kernel_rfl)) (fun _ _ _ h => h) (Or.inl ⟨by rfl, ?_⟩) ?_ ?_
  rotate_left
  ·intro w'
   go_simp
   with_reducible rfl
  rotate_left
  ·simp only [Act.put, List.setIfInBounds_toArray, List.set_cons_zero, List.set_cons_succ, i64_w, i32_w]
   rfl
  refine take_ (i := 1) (N := some 40) (v := ?_) (a' := ?_) #[true, true, true, true, true, false, false, false, false, false] rfl rfl (take_ofW HT_.out HW_.out (by kernel_rfl)) (fun _ _ _ h => h) (Or.inl ⟨by rfl, ?_⟩) hHeld ?_ ?_
  rotate_left
  ·intro w' s0
   go_simp
   with_reducible rfl
  rotate_left
  ·simp only [Act.put, List.setIfInBounds_toArray, List.set_cons_zero, List.set_cons_succ, i64_w, i32_w]
   rfl
  refine one_ (i := 5) (N := some 44) #[true, true, true, true, true, true, false, false, false, false] rfl rfl (one_of HT_.out (by kernel_rfl)) (by decide) (fun K hK => ?_)
  refine Kd.R_lit_step (Kd.int .i64) _ 3 ?hg (N := 44) ?hd (xs := ([0, 1, 2, (-1), 40, t249] : List Int)) (inner := [.int .i64 0, .int .i64 1, .int .i64 2, .int .i64 (-1), .int .i64 40, .int .i64 t249]) (ok := fun _ => True) (okp := fun _ => True) ?hr ?hp (fun _ hk => hk) trivial (Below.refl _ _) (Nat.le_refl _) (by simp) ?_; (case hd => rfl); (case hg => rfl); (case hr => first | (go_simp; done) | (go_simp; rfl)); (case hp => exact (Reps.one (show Kd.M (Kd.int .i64) _ _ _ 0 [.int .i64 0] from rfl) (Reps.one (show Kd.M (Kd.int .i64) _ _ _ 1 [.int .i64 1] from rfl) (Reps.one (show Kd.M (Kd.int .i64) _ _ _ 2 [.int .i64 2] from rfl) (Reps.one (show Kd.M (Kd.int .i64) _ _ _ (-1) [.int .i64 (-1)] from rfl) (Reps.one (show Kd.M (Kd.int .i64) _ _ _ 40 [.int .i64 40] from rfl) (Reps.one (show Kd.M (Kd.int .i64) _ _ _ t249 [.int .i64 t249] from rfl) (Reps.none _ _))))))))
  intro v270 w57 ho58 hb hg_ hnew_
  clear hg_ hnew_
  (first | rw [← Ny269.out] at ho58 | (simp only [Int.reduceToNat] at ho58; rw [← Ny269.out] at ho58))
  have n_ := spec_l17Bent.K7_ (Kd.R_below (by (with_reducible repeat (first | apply Kd.R_alloc | apply Kd.R_drewN | apply Kd.R_drew)); exact HO245.out) hb) (Kd.R_lower ho58 (keep_size (w := w) (g := g) (row := none) (by repeat (first | (with_reducible first | exact HK.out | apply KeepBut.set_ | apply keep_drewN | apply keep_drew | apply keep_alloc | refine keep_far ?_ GW239.out _ | refine keep_far ?_ GW248.out _) | exact HK.out)))) (IsS118.below (by repeat (first | (with_reducible first | exact HI0.out | apply IsS118.alloc | apply IsS118.drewN | apply IsS118.drew | apply IsS118.set_1 | apply IsS118.set_2 | refine IsS118.far ?_ NB0_239.out _ | refine IsS118.far ?_ NB0_248.out _) | exact HI0.out)) hb) (blk_below (g := gb239) (o := .cells #[.slice none 0 0] 65 (0, 0)) (by (with_reducible repeat (first | refine blk_drewN ?_ _ | refine blk_drew ?_ | refine blk_alloc ?_ _)); exact BK239.out) hb) (blk_below (g := gb248) (o := .cells #[.slice Ao11 t243.length co11] 65 (0, 0)) (by (with_reducible repeat (first | refine blk_drewN ?_ _ | refine blk_drew ?_ | refine blk_alloc ?_ _)); exact BK248.out) hb) (KeepBut.trans (by repeat (first | (with_reducible first | exact HK.out | apply KeepBut.set_ | apply keep_drewN | apply keep_drew | apply keep_alloc | refine keep_far ?_ GW239.out _ | refine keep_far ?_ GW248.out _) | exact HK.out)) (KeepBut.of_below hb g none) (.inl rfl)) (below_step (by repeat (first | (with_reducible first | exact HB.out | apply below_alloc | apply pw_below_drewN | apply below_drew1 | refine below_set ?_ (IsS118.ge HI0.out) | refine below_set ?_ GE239.out | refine below_set ?_ GE248.out) | exact HB.out)) hb)
  clear HO245 HI0 BK239 BK248 HK HB
  obtain ⟨HO245, HO271, HI0, BK239, BK248, HK, HB⟩ := n_
  clear hb ho58
  obtain ⟨Ao59, co59, eo59⟩ := Kd.R_slice HO271.out
  (first | subst eo59 | (injection eo59 with f1_ f2_ f3_; have f4_ := f1_.symm; have f5_ := f3_.symm; clear f1_ f2_ f3_; subst f4_; subst f5_))
  refine hK.out _ _ ((blk_cell BK248.out 0).trans rfl) (fun hHeld => ?_)
  clear hK K
  refine norm_ (a' := ?_) ?_ ?_
  rotate_left
  ·show Act.put _ (some 44) _ = _
   simp only [Act.put, List.setIfInBounds_toArray, List.set_cons_zero, List.set_cons_succ, i64_w, i32_w]
   rfl
  refine one_ (i := 6) (N := some 45) #[true, true, true, true, true, true, true, false, false, false] rfl rfl (one_of HT_.out (by kernel_rfl)) (by decide) (fun K hK => ?_)
  refine goes_ Tryd.func82 (by kernel_rfl) rfl #[.pointer (some ⟨g, 0, none⟩), .slice Ao59 y269.length co59] (by rfl) rfl rfl (by (try simp only [List.map_toArray, List.map_cons, List.map_nil]); first | done | rfl | (simp only [List.length_drop, List.length_take]; rfl)) ?_
  with_reducible refine (spec_l1PickInt.calls g s0_0 t253 t254 _ _ y269 t272 t273 t274 w0 _ ?side1 ?side2 ?side3 ?side4 ?side5 A52.out).mono ?_
  (case side1 => repeat (first | (with_reducible first | exact HI0.out | apply IsS118.alloc | apply IsS118.drewN | apply IsS118.drew | apply IsS118.set_1 | apply IsS118.set_2 | refine IsS118.far ?_ NB0_239.out _ | refine IsS118.far ?_ NB0_248.out _) | exact HI0.out))
  (case side2 => repeat (first | (with_reducible first | exact HB.out | apply below_alloc | apply pw_below_drewN | apply below_drew1 | refine below_set ?_ (IsS118.ge HI0.out) | refine below_set ?_ GE239.out | refine below_set ?_ GE248.out) | exact HB.out))
  (case side3 => repeat (first | exact (Kd.R_reads' HO271.out).2.2 | (with_reducible refine Kd.C_alloc ?_ _) | (with_reducible refine Kd.C_drewN ?_ _) | (with_reducible refine Kd.C_drew ?_)))
  (case side4 => exact (Kd.R_reads' HO271.out).2.1)
  (case side5 => exact far_slice (IsS118.own_ne HI0.out HO271.out (by decide)))
  rintro e w60 ⟨rfl, hi, hb, hk⟩
  refine ⟨_, rfl, ?_⟩
  have n_ := spec_l17Bent.K7_ (KeepBut.blk hk (g' := gb239) (o := .cells #[.slice none 0 0] 65 (0, 0)) (by (with_reducible repeat (first | refine blk_drewN ?_ _ | refine blk_drew ?_ | refine blk_alloc ?_ _)); exact BK239.out) NB239_0.out (by simp)) (Kd.R_mono (Kd.R_keep (IsS118.apart (show IsS118 w0 _ g s0_0 t253 t254 from by repeat (first | (with_reducible first | exact HI0.out | apply IsS118.alloc | apply IsS118.drewN | apply IsS118.drew | apply IsS118.set_1 | apply IsS118.set_2 | refine IsS118.far ?_ NB0_239.out _ | refine IsS118.far ?_ NB0_248.out _) | exact HI0.out)) (by (with_reducible repeat (first | apply Kd.R_alloc | apply Kd.R_drewN | apply Kd.R_drew)); exact HO245.out) (by decide)) hk (fun _ h => h.2)) (fun _ h => h.1)) (KeepBut.blk hk (g' := gb248) (o := .cells #[.slice Ao11 t243.length co11] 65 (0, 0)) (by (with_reducible repeat (first | refine blk_drewN ?_ _ | refine blk_drew ?_ | refine blk_alloc ?_ _)); exact BK248.out) NB248_0.out (by simp)) (Kd.R_mono (Kd.R_keep (IsS118.apart (show IsS118 w0 _ g s0_0 t253 t254 from by repeat (first | (with_reducible first | exact HI0.out | apply IsS118.alloc | apply IsS118.drewN | apply IsS118.drew | apply IsS118.set_1 | apply IsS118.set_2 | refine IsS118.far ?_ NB0_239.out _ | refine IsS118.far ?_ NB0_248.out _) | exact HI0.out)) (by (with_reducible repeat (first | apply Kd.R_alloc | apply Kd.R_drewN | apply Kd.R_drew)); exact HO271.out) (by decide)) hk (fun _ h => h.2)) (fun _ h => h.1)) (KeepBut.trans (by repeat (first | (with_reducible first | exact HK.out | apply KeepBut.set_ | apply keep_drewN | apply keep_drew | apply keep_alloc | refine keep_far ?_ GW239.out _ | refine keep_far ?_ GW248.out _) | exact HK.out)) hk (.inl rfl)) hb hi
  clear BK239 HO245 BK248 HO271 HK HB HI0
  obtain ⟨BK239, HO245, BK248, HO271, HK, HB, HI0⟩ := n_
  (try clear hb)
  (try clear hb2)
  (try clear hk)
  (try clear hi)
  have p55 : 0 ≤ (t249 : Int) := of_decide_eq_true (by first | (with_reducible assumption) | assumption)
  have q55 : (t249 : Int) < ((t243.length : Int) : Int) := of_decide_eq_true (by first | (with_reducible assumption) | assumption)
  obtain ⟨go55, co55, eo55, gb55, gl55, cl55, HG55⟩ := Kd.R_form HO245.out (by omega)
  (first | cases eo55 | (injection eo55 with ea_ en_ ec_; (first | subst ea_ | (injection ea_ with ea_; subst ea_)); subst ec_; clear en_))
  have GB55 := Aside0.mk gb55
  have GG55 := Aside0.mk HG55
  clear gb55 gl55 HG55
  obtain ⟨ce55, hcl55, hM55, hcc55, hfr55⟩ := Kd.R_elem HO245.out z23 (t249 : Int) p55 q55
  obtain rfl := k23_openM hM55
  have hx55_0 : World.cell? _ ⟨go55, (t249 : Int).toNat * 5, none⟩ = some (.int .i64 ((rd_T23 t243 t249).f0)) := hcc55 0 _ rfl
  have hx55_1 : World.cell? _ ⟨go55, (t249 : Int).toNat * 5 + 1, none⟩ = some (.int .i64 ((rd_T23 t243 t249).f1)) := hcc55 1 _ rfl
  have hx55_2 : World.cell? _ ⟨go55, (t249 : Int).toNat * 5 + 2, none⟩ = some (.int .i64 ((rd_T23 t243 t249).f2)) := hcc55 2 _ rfl
  have hx55_3 : World.cell? _ ⟨go55, (t249 : Int).toNat * 5 + 3, none⟩ = some (.int .i64 ((rd_T23 t243 t249).f3)) := hcc55 3 _ rfl
  have hx55_4 : World.cell? _ ⟨go55, (t249 : Int).toNat * 5 + 4, none⟩ = some (.int .i64 ((rd_T23 t243 t249).f4)) := hcc55 4 _ rfl
  have hf55_0 : World.frozen? _ ⟨go55, (t249 : Int).toNat * 5, none⟩ = false := hfr55 0
  have hf55_1 : World.frozen? _ ⟨go55, (t249 : Int).toNat * 5 + 1, none⟩ = false := hfr55 1
  have hf55_2 : World.frozen? _ ⟨go55, (t249 : Int).toNat * 5 + 2, none⟩ = false := hfr55 2
  have hf55_3 : World.frozen? _ ⟨go55, (t249 : Int).toNat * 5 + 3, none⟩ = false := hfr55 3
  have hf55_4 : World.frozen? _ ⟨go55, (t249 : Int).toNat * 5 + 4, none⟩ = false := hfr55 4
  clear hcl55 hcc55 hfr55; (try clear hM55)
  replace p55 := eq_true p55
  replace q55 := eq_true q55
  have HN0_go55 := Aside0.mk (show g ≠ go55 from by have h_ := IsS118.own_ne HI0.out HO245.out (by decide); intro e_; exact h_ (by rw [e_]; rfl))
  obtain ⟨ce61, hcl61, hM61, hcc61, hfr61⟩ := Kd.R_elem HO245.out z23 (t249 : Int) (of_decide_eq_true (by first | (with_reducible assumption) | assumption)) (by have h_ : (t249 : Int) < ((t243.length : Int) : Int) := of_decide_eq_true (by first | (with_reducible assumption) | assumption); first | exact h_ | (have e_ := (Kd.R_reads' HO245.out).1; omega) | simpa using h_)
  obtain rfl := k23_openM hM61
  have HP61 := (Kd.R_seg HO245.out (t249 : Int) (of_decide_eq_true (by first | (with_reducible assumption) | assumption)) (by have h_ : (t249 : Int) < ((t243.length : Int) : Int) := of_decide_eq_true (by first | (with_reducible assumption) | assumption); first | exact h_ | (have e_ := (Kd.R_reads' HO245.out).1; omega) | simpa using h_) (seg := [.int .i64 t272]) (j := 2) hcl61 hcc61 (show 3 ≤ 5 from by decide) (x' := (⟨(rd_T23 t243 t249).f0, (rd_T23 t243 t249).f1, t272, (rd_T23 t243 t249).f3, (rd_T23 t243 t249).f4⟩ : S23)) (k23_mkM _ _ _ (⟨(rd_T23 t243 t249).f0, (rd_T23 t243 t249).f1, t272, (rd_T23 t243 t249).f3, (rd_T23 t243 t249).f4⟩ : S23) ) (fun _ hk => hk)).1
  rw [← Ny275.out] at HP61
  have HQ61 := Aside0.mk HP61
  clear hcl61 hcc61 hfr61 HP61; (try clear hM61)
  refine hK.out _ _ ((blk_cell BK248.out 0).trans rfl) (fun hHeld => ?_)
  clear hK K
  refine norm_ (a' := ?_) ?_ ?_
  rotate_left
  ·show Act.put _ (some 45) _ = _
   simp only [Act.put, List.setIfInBounds_toArray, List.set_cons_zero, List.set_cons_succ, i64_w, i32_w]
   rfl
  refine pure_ (i := 7) (N := some 46) (v := ?_) (a' := ?_) #[true, true, true, true, true, true, true, true, false, false] rfl rfl (any_of HT_.out (by kernel_rfl)) (fun _ _ _ h => h) (Or.inl ⟨by rfl, ?_⟩) ?_ ?_
  rotate_left
  ·intro w'
   go_simp
   with_reducible rfl
  rotate_left
  ·simp only [Act.put, List.setIfInBounds_toArray, List.set_cons_zero, List.set_cons_succ, i64_w, i32_w]
   rfl
  refine pure_ (i := 8) (N := some 47) (v := ?_) (a' := ?_) #[true, true, true, true, true, true, true, true, true, false] rfl rfl (any_of HT_.out (by kernel_rfl)) (fun _ _ _ h => h) (Or.inl ⟨by rfl, ?_⟩) ?_ ?_
  rotate_left
  ·intro w'
   go_simp
   with_reducible rfl
  rotate_left
  ·simp only [Act.put, List.setIfInBounds_toArray, List.set_cons_zero, List.set_cons_succ, i64_w, i32_w]
   rfl
  refine last_ (i := 9) (N := none) #[true, true, true, true, true, true, true, true, true, true] rfl rfl (one_of HT_.out (by kernel_rfl)) (by decide) (fun K hK => ?_)
  refine skip_ (w1 := ?_) (by rfl) rfl ?_ ?_
  rotate_left
  ·go_simp
   rfl
  refine hK.out _ _ ?_
  clear hK K
  refine done_ (done_of HT_.out (by kernel_rfl)) ?_
  have n0_ : Aside0 (Kd.R k23 23 (w60.setCell ⟨go55, (t249 : Int).toNat * 5 + 2, none⟩ (.int .i64 t272)) w.heap.size (fun _ => True) (.slice (some ⟨go55, 0, none⟩) t243.length co11) y275) := ⟨by (with_reducible repeat (first | apply Kd.R_alloc | apply Kd.R_drewN | apply Kd.R_drew)); exact HQ61.out⟩
  have n1_ : Aside0 (Kd.R (Kd.int .i64) 3 (w60.setCell ⟨go55, (t249 : Int).toNat * 5 + 2, none⟩ (.int .i64 t272)) w.heap.size (fun _ => True) (.slice Ao59 y269.length co59) y269) := ⟨by (with_reducible repeat (first | apply Kd.R_alloc | apply Kd.R_drewN | apply Kd.R_drew)); exact Kd.R_mono (Kd.R_far (p := ⟨go55, (t249 : Int).toNat * 5 + 2, none⟩) (Kd.R_types HO271.out GG55.out (by decide)) (fun _ hk => hk.2) (.int .i64 t272)) (fun _ hk => trivial)⟩
  have n2_ : Aside0 ((w60.setCell ⟨go55, (t249 : Int).toNat * 5 + 2, none⟩ (.int .i64 t272)).heap[gb239]? = some (.cells #[.slice none 0 0] 65 (0, 0))) := ⟨by (with_reducible repeat (first | refine blk_drewN ?_ _ | refine blk_drew ?_ | refine blk_alloc ?_ _)); refine blk_far ?_ (by have h_ := Kd.R_ne HO245.out BK239.out (by decide); intro e_; exact h_ (by rw [e_]; rfl)) _; (with_reducible repeat (first | refine blk_drewN ?_ _ | refine blk_drew ?_ | refine blk_alloc ?_ _)); exact BK239.out⟩
  have n3_ : Aside0 ((w60.setCell ⟨go55, (t249 : Int).toNat * 5 + 2, none⟩ (.int .i64 t272)).heap[gb248]? = some (.cells #[.slice (some ⟨go55, 0, none⟩) t243.length co11] 65 (0, 0))) := ⟨by (with_reducible repeat (first | refine blk_drewN ?_ _ | refine blk_drew ?_ | refine blk_alloc ?_ _)); refine blk_far ?_ (by have h_ := Kd.R_ne HO245.out BK248.out (by decide); intro e_; exact h_ (by rw [e_]; rfl)) _; (with_reducible repeat (first | refine blk_drewN ?_ _ | refine blk_drew ?_ | refine blk_alloc ?_ _)); exact BK248.out⟩
  have n4_ : Aside0 (IsS118 w0 (w60.setCell ⟨go55, (t249 : Int).toNat * 5 + 2, none⟩ (.int .i64 t272)) g s0_0 t273 t274) := ⟨by repeat (first | (with_reducible first | exact HI0.out | apply IsS118.alloc | apply IsS118.drewN | apply IsS118.drew | apply IsS118.set_1 | apply IsS118.set_2 | refine IsS118.far ?_ HN0_go55.out _ | refine IsS118.far ?_ NB0_239.out _ | refine IsS118.far ?_ NB0_248.out _) | exact HI0.out)⟩
  have n5_ : Aside0 (KeepBut w (w60.setCell ⟨go55, (t249 : Int).toNat * 5 + 2, none⟩ (.int .i64 t272)) g none) := ⟨by repeat (first | (with_reducible first | exact HK.out | apply KeepBut.set_ | apply keep_drewN | apply keep_drew | apply keep_alloc | refine keep_far ?_ GB55.out _ | refine keep_far ?_ GW239.out _ | refine keep_far ?_ GW248.out _) | exact HK.out)⟩
  have n6_ : Aside0 (Below w0.heap.size w0 (w60.setCell ⟨go55, (t249 : Int).toNat * 5 + 2, none⟩ (.int .i64 t272))) := ⟨by repeat (first | (with_reducible first | exact HB.out | apply below_alloc | apply pw_below_drewN | apply below_drew1 | refine below_set ?_ (Nat.le_trans HL.out GB55.out) | refine below_set ?_ (IsS118.ge HI0.out) | refine below_set ?_ GE239.out | refine below_set ?_ GE248.out) | exact HB.out)⟩
  (try clear HO245)
  (try clear HO271)
  (try clear BK239)
  (try clear BK248)
  (try clear HI0)
  (try clear HK)
  (try clear HB)
  generalize (w60.setCell ⟨go55, (t249 : Int).toNat * 5 + 2, none⟩ (.int .i64 t272)) = w62 at n0_ n1_ n2_ n3_ n4_ n5_ n6_ ⊢
  have HO245 := n0_
  have HO271 := n1_
  have BK239 := n2_
  have BK248 := n3_
  have HI0 := n4_
  have HK := n5_
  have HB := n6_
  clear n0_ n1_ n2_ n3_ n4_ n5_ n6_
  have hnb63 := NB248_239.out
  have hnc63 := NB239_248.out
  have hnb64 := NB248_0.out
  have hnc64 := NB0_248.out
  have hcz65_0 : w62.cell? ⟨gb248, 0, none⟩ = some (.slice (some ⟨go55, 0, none⟩) t243.length co11) := (blk_cell BK248.out 0).trans rfl
  have hfz65_0 := blk_frozen BK248.out 0
  have hnb66 := NB239_0.out
  have hnc66 := NB0_239.out
  have hcz67_0 : w62.cell? ⟨gb239, 0, none⟩ = some (.slice none 0 0) := (blk_cell BK239.out 0).trans rfl
  have hfz67_0 := blk_frozen BK239.out 0
  try go_wp2
  refine bodyPost_ret (results_cell_row rfl _ _ gb239 65 #[.slice (some ⟨go55, 0, none⟩) t243.length co11] (0, 0) _ rfl (by (with_reducible repeat (first | refine blk_drewN ?_ _ | refine blk_drew ?_ | refine blk_alloc ?_ _)); refine blk_put (cs := #[.slice none 0 0]) ?_ 0 _ rfl; (with_reducible repeat (first | refine blk_drewN ?_ _ | refine blk_drew ?_ | refine blk_alloc ?_ _)); exact BK239.out) Tryd.underlying65 rfl (by kernel_rfl)) rfl ?_
  exact ⟨_, by first | rfl | (simp [errW_none, errW_some] <;> rfl) | (simp [*, errW_none, errW_some] <;> rfl), by (with_reducible repeat (first | apply Kd.R_alloc | apply Kd.R_drewN | apply Kd.R_drew)); exact Kd.R_mono (Kd.R_far (p := ⟨gb239, 0, none⟩) (Kd.R_types HO245.out BK239.out (by decide)) (fun _ hk => hk.2) (.slice (some ⟨go55, 0, none⟩) t243.length co11)) (fun _ hk => trivial), by repeat (first | (with_reducible first | exact HI0.out | apply IsS118.alloc | apply IsS118.drewN | apply IsS118.drew | apply IsS118.set_1 | apply IsS118.set_2 | refine IsS118.far ?_ NB0_239.out _ | refine IsS118.far ?_ NB0_248.out _) | exact HI0.out), by repeat (first | (with_reducible first | exact HB.out | apply below_alloc | apply pw_below_drewN | apply below_drew1 | refine below_set ?_ (IsS118.ge HI0.out) | refine below_set ?_ GE239.out | refine below_set ?_ GE248.out) | exact HB.out), by repeat (first | (with_reducible first | exact HK.out | apply KeepBut.set_ | apply keep_drewN | apply keep_drew | apply keep_alloc | refine keep_far ?_ GW239.out _ | refine keep_far ?_ GW248.out _) | exact HK.out)⟩
 rw [if_neg c51] at H
 have c51b0 : (t252 == 2) = false := beq_eq_false_iff_ne.mpr c51
 have c51b1 : (t252 != 2) = true := bne_iff_ne.mpr c51
 by_cases c68 : t252 = 3
 case pos =>
  rw [if_pos c68] at H
  have c68b0 : (t252 == 3) = true := beq_iff_eq.mpr c68
  have c68b1 : (t252 != 3) = false := bne_eq_false_iff_eq.mpr c68
  clear c68
  obtain ⟨y276, hy276⟩ : ∃ y_ : List Int, y_ = (([0, 1, 2, (-1), 40, t249] : List Int)) := ⟨_, rfl⟩
  replace H : ((spec_l1PickInt.f s0_0 t253 t254 y276).bind fun bt279 => (if 0 ≤ t249 then (if t249 < (t243.length : Int) then (some ((t243.set (t249 : Int).toNat (⟨(rd_T23 t243 t249).f0, (rd_T23 t243 t249).f1, (rd_T23 t243 t249).f2, bt279.1, (rd_T23 t243 t249).f4⟩ : S23)), bt279.2.1, bt279.2.2)) else (none)) else (none))) = some (r1, r2, r3) := by first | (rw [hy276]; with_reducible exact H) | (have H2_ := (Option.bind_some _ _).symm.trans H; rw [hy276]; with_reducible exact H2_) | (have H2_ := (Option.bind_some _ _).symm.trans H; with_reducible exact H2_) | with_reducible exact H | (rw [hy276]; exact H) | exact H
  have Ny276 := Aside0.mk hy276
  clear hy276
  replace H := Option.bind_eq_some_iff.mp H
  obtain ⟨⟨t279, t280, t281⟩, A690, H⟩ := H
  replace H : (if 0 ≤ t249 then (if t249 < (t243.length : Int) then (some ((t243.set (t249 : Int).toNat (⟨(rd_T23 t243 t249).f0, (rd_T23 t243 t249).f1, (rd_T23 t243 t249).f2, t279, (rd_T23 t243 t249).f4⟩ : S23)), t280, t281)) else (none)) else (none)) = some (r1, r2, r3) := H
  have A69 := Aside0.mk A690
  clear A690
  by_cases c70 : 0 ≤ t249
  case neg =>
   rw [if_neg c70] at H
   exact absurd H (by simp)
  rw [if_pos c70] at H
  have c70b0 : decide (0 ≤ t249) = true := decide_eq_true c70
  clear c70
  by_cases c71 : t249 < (t243.length : Int)
  case neg =>
   rw [if_neg c71] at H
   exact absurd H (by simp)
  rw [if_pos c71] at H
  have c71b0 : decide (t249 < (t243.length : Int)) = true := decide_eq_true c71
  clear c71
  obtain ⟨y282, hy282⟩ : ∃ y_ : List (S23), y_ = (t243.set (t249 : Int).toNat (⟨(rd_T23 t243 t249).f0, (rd_T23 t243 t249).f1, (rd_T23 t243 t249).f2, t279, (rd_T23 t243 t249).f4⟩ : S23)) := ⟨_, rfl⟩
  replace H : (some (y282, t280, t281)) = some (r1, r2, r3) := by first | (rw [hy282]; with_reducible exact H) | (have H2_ := (Option.bind_some _ _).symm.trans H; rw [hy282]; with_reducible exact H2_) | (have H2_ := (Option.bind_some _ _).symm.trans H; with_reducible exact H2_) | with_reducible exact H | (rw [hy282]; exact H) | exact H
  have Ny282 := Aside0.mk hy282
  clear hy282
  simp only [Option.some.injEq, Prod.mk.injEq] at H
  obtain ⟨rfl, rfl, rfl⟩ := H
  try go_wp2
  have n_ := spec_l17Bent.K6_ (Kd.R_drew HO245.out) (blk_drew BK239.out) (blk_drew BK248.out) (IsS118.drew HI0.out) (keep_drew HK.out) (below_drew1 HB.out)
  clear HO245 BK239 BK248 HI0 HK HB
  obtain ⟨HO245, BK239, BK248, HI0, HK, HB⟩ := n_
  refine start_ (n := 10) (S := fun w' => w'.cell? ⟨gb248, 0, none⟩ = some (.slice Ao11 t243.length co11)) (ds := [9]) #[false, false, false, false, false, false, false, false, false, false] (by kernel_rfl) rfl rfl ((blk_cell BK248.out 0).trans rfl) (fun hHeld => ?_); refine with_tabW spec_l17Bent.tab11 spec_l17Bent.bits11 (fun HT_ HW_ => ?_)
  generalize w16.drew = w73 at HO245 BK239 BK248 HI0 HK HB hHeld ⊢
  refine pure_ (i := 0) (N := some 50) (v := ?_) (a' := ?_) #[true, false, false, false, false, false, false, false, false, false] rfl rfl (any_of HT_.out (by kernel_rfl)) (fun _ _ _ h => h) (Or.inl ⟨by rfl, ?_⟩) ?_ ?_
  rotate_left
  ·intro w'
   go_simp
   with_reducible rfl
  rotate_left
  ·simp only [Act.put, List.setIfInBounds_toArray, List.set_cons_zero, List.set_cons_succ, i64_w, i32_w]
   rfl
  refine pure_ (i := 2) (N := some 52) (v := ?_) (a' := ?_) #[true, false, true, false, false, false, false, false, false, false] rfl rfl (any_of HT_.out (by kernel_rfl)) (fun _ _ _ h => h) (Or.inl ⟨by rfl, ?_⟩) ?_ ?_
  rotate_left
  ·intro w'
   go_simp
   with_reducible rfl
  rotate_left
  ·simp only [Act.put, List.setIfInBounds_toArray, List.set_cons_zero, List.set_cons_succ, i64_w, i32_w]
   rfl
  refine pure_ (i := 3) (N := some 53) (v := ?_) (a' := ?_) #[true, false, true, true, false, false, false, false, false, false] rfl rfl (any_of HT_.out (by kernel_rfl)) (fun _ _ _ h => h) (Or.inl ⟨by rfl, ?_⟩) ?_ ?_
  rotate_left
  ·intro w'
   go_simp
   with_reducible rfl
  rotate_left
  ·simp only [Act.put, List.setIfInBounds_toArray, List.set_cons_zero, List.set_cons_succ, i64_w, i32_w]
   rfl
  refine pure_ (i := 4) (N := some 54) (v := ?_) (a' := ?_) #[true, false, true, true, true, false, false, false, false, false] rfl rfl (any_of HT_.out (by kernel_rfl)) (fun _ _ _ h => h) (Or.inl ⟨by rfl, ?_⟩) ?_ ?_
  rotate_left
  ·intro w'
   go_simp
   with_reducible rfl
  rotate_left
  ·simp only [Act.put, List.setIfInBounds_toArray, List.set_cons_zero, List.set_cons_succ, i64_w, i32_w]
   rfl
  refine take_ (i := 1) (N := some 51) (v := ?_) (a' := ?_) #[true, true, true, true, true, false, false, false, false, false] rfl rfl (take_ofW HT_.out HW_.out (by kernel_rfl)) (fun _ _ _ h => h) (Or.inl ⟨by rfl, ?_⟩) hHeld ?_ ?_
  rotate_left
  ·intro w' s0
   go_simp
   with_reducible rfl
  rotate_left
  ·simp only [Act.put, List.setIfInBounds_toArray, List.set_cons_zero, List.set_cons_succ, i64_w, i32_w]
   rfl
  refine one_ (i := 5) (N := some 55) #[true, true, true, true, true, true, false, false, false, false] rfl rfl (one_of HT_.out (by kernel_rfl)) (by decide) (fun K hK => ?_)
  refine Kd.R_lit_step (Kd.int .i64) _ 3 ?hg (N := 55) ?hd (xs := ([0, 1, 2, (-1), 40, t249] : List Int)) (inner := [.int .i64 0, .int .i64 1, .int .i64 2, .int .i64 (-1), .int .i64 40, .int .i64 t249]) (ok := fun _ => True) (okp := fun _ => True) ?hr ?hp (fun _ hk => hk) trivial (Below.refl _ _) (Nat.le_refl _) (by simp) ?_; (case hd => rfl); (case hg => rfl); (case hr => first | (go_simp; done) | (go_simp; rfl)); (case hp => exact (Reps.one (show Kd.M (Kd.int .i64) _ _ _ 0 [.int .i64 0] from rfl) (Reps.one (show Kd.M (Kd.int .i64) _ _ _ 1 [.int .i64 1] from rfl) (Reps.one (show Kd.M (Kd.int .i64) _ _ _ 2 [.int .i64 2] from rfl) (Reps.one (show Kd.M (Kd.int .i64) _ _ _ (-1) [.int .i64 (-1)] from rfl) (Reps.one (show Kd.M (Kd.int .i64) _ _ _ 40 [.int .i64 40] from rfl) (Reps.one (show Kd.M (Kd.int .i64) _ _ _ t249 [.int .i64 t249] from rfl) (Reps.none _ _))))))))
  intro v277 w74 ho75 hb hg_ hnew_
  clear hg_ hnew_
  (first | rw [← Ny276.out] at ho75 | (simp only [Int.reduceToNat] at ho75; rw [← Ny276.out] at ho75))
  have n_ := spec_l17Bent.K7_ (Kd.R_below (by (with_reducible repeat (first | apply Kd.R_alloc | apply Kd.R_drewN | apply Kd.R_drew)); exact HO245.out) hb) (Kd.R_lower ho75 (keep_size (w := w) (g := g) (row := none) (by repeat (first | (with_reducible first | exact HK.out | apply KeepBut.set_ | apply keep_drewN | apply keep_drew | apply keep_alloc | refine keep_far ?_ GW239.out _ | refine keep_far ?_ GW248.out _) | exact HK.out)))) (IsS118.below (by repeat (first | (with_reducible first | exact HI0.out | apply IsS118.alloc | apply IsS118.drewN | apply IsS118.drew | apply IsS118.set_1 | apply IsS118.set_2 | refine IsS118.far ?_ NB0_239.out _ | refine IsS118.far ?_ NB0_248.out _) | exact HI0.out)) hb) (blk_below (g := gb239) (o := .cells #[.slice none 0 0] 65 (0, 0)) (by (with_reducible repeat (first | refine blk_drewN ?_ _ | refine blk_drew ?_ | refine blk_alloc ?_ _)); exact BK239.out) hb) (blk_below (g := gb248) (o := .cells #[.slice Ao11 t243.length co11] 65 (0, 0)) (by (with_reducible repeat (first | refine blk_drewN ?_ _ | refine blk_drew ?_ | refine blk_alloc ?_ _)); exact BK248.out) hb) (KeepBut.trans (by repeat (first | (with_reducible first | exact HK.out | apply KeepBut.set_ | apply keep_drewN | apply keep_drew | apply keep_alloc | refine keep_far ?_ GW239.out _ | refine keep_far ?_ GW248.out _) | exact HK.out)) (KeepBut.of_below hb g none) (.inl rfl)) (below_step (by repeat (first | (with_reducible first | exact HB.out | apply below_alloc | apply pw_below_drewN | apply below_drew1 | refine below_set ?_ (IsS118.ge HI0.out) | refine below_set ?_ GE239.out | refine below_set ?_ GE248.out) | exact HB.out)) hb)
  clear HO245 HI0 BK239 BK248 HK HB
  obtain ⟨HO245, HO278, HI0, BK239, BK248, HK, HB⟩ := n_
  clear hb ho75
  obtain ⟨Ao76, co76, eo76⟩ := Kd.R_slice HO278.out
  (first | subst eo76 | (injection eo76 with f1_ f2_ f3_; have f4_ := f1_.symm; have f5_ := f3_.symm; clear f1_ f2_ f3_; subst f4_; subst f5_))
  refine hK.out _ _ ((blk_cell BK248.out 0).trans rfl) (fun hHeld => ?_)
  clear hK K
  refine norm_ (a' := ?_) ?_ ?_
  rotate_left
  ·show Act.put _ (some 55) _ = _
   simp only [Act.put, List.setIfInBounds_toArray, List.set_cons_zero, List.set_cons_succ, i64_w, i32_w]
   rfl
  refine one_ (i := 6) (N := some 56) #[true, true, true, true, true, true, true, false, false, false] rfl rfl (one_of HT_.out (by kernel_rfl)) (by decide) (fun K hK => ?_)
  refine goes_ Tryd.func82 (by kernel_rfl) rfl #[.pointer (some ⟨g, 0, none⟩), .slice Ao76 y276.length co76] (by rfl) rfl rfl (by (try simp only [List.map_toArray, List.map_cons, List.map_nil]); first | done | rfl | (simp only [List.length_drop, List.length_take]; rfl)) ?_
  with_reducible refine (spec_l1PickInt.calls g s0_0 t253 t254 _ _ y276 t279 t280 t281 w0 _ ?side1 ?side2 ?side3 ?side4 ?side5 A69.out).mono ?_
  (case side1 => repeat (first | (with_reducible first | exact HI0.out | apply IsS118.alloc | apply IsS118.drewN | apply IsS118.drew | apply IsS118.set_1 | apply IsS118.set_2 | refine IsS118.far ?_ NB0_239.out _ | refine IsS118.far ?_ NB0_248.out _) | exact HI0.out))
  (case side2 => repeat (first | (with_reducible first | exact HB.out | apply below_alloc | apply pw_below_drewN | apply below_drew1 | refine below_set ?_ (IsS118.ge HI0.out) | refine below_set ?_ GE239.out | refine below_set ?_ GE248.out) | exact HB.out))
  (case side3 => repeat (first | exact (Kd.R_reads' HO278.out).2.2 | (with_reducible refine Kd.C_alloc ?_ _) | (with_reducible refine Kd.C_drewN ?_ _) | (with_reducible refine Kd.C_drew ?_)))
  (case side4 => exact (Kd.R_reads' HO278.out).2.1)
  (case side5 => exact far_slice (IsS118.own_ne HI0.out HO278.out (by decide)))
  rintro e w77 ⟨rfl, hi, hb, hk⟩
  refine ⟨_, rfl, ?_⟩
  have n_ := spec_l17Bent.K7_ (KeepBut.blk hk (g' := gb239) (o := .cells #[.slice none 0 0] 65 (0, 0)) (by (with_reducible repeat (first | refine blk_drewN ?_ _ | refine blk_drew ?_ | refine blk_alloc ?_ _)); exact BK239.out) NB239_0.out (by simp)) (Kd.R_mono (Kd.R_keep (IsS118.apart (show IsS118 w0 _ g s0_0 t253 t254 from by repeat (first | (with_reducible first | exact HI0.out | apply IsS118.alloc | apply IsS118.drewN | apply IsS118.drew | apply IsS118.set_1 | apply IsS118.set_2 | refine IsS118.far ?_ NB0_239.out _ | refine IsS118.far ?_ NB0_248.out _) | exact HI0.out)) (by (with_reducible repeat (first | apply Kd.R_alloc | apply Kd.R_drewN | apply Kd.R_drew)); exact HO245.out) (by decide)) hk (fun _ h => h.2)) (fun _ h => h.1)) (KeepBut.blk hk (g' := gb248) (o := .cells #[.slice Ao11 t243.length co11] 65 (0, 0)) (by (with_reducible repeat (first | refine blk_drewN ?_ _ | refine blk_drew ?_ | refine blk_alloc ?_ _)); exact BK248.out) NB248_0.out (by simp)) (Kd.R_mono (Kd.R_keep (IsS118.apart (show IsS118 w0 _ g s0_0 t253 t254 from by repeat (first | (with_reducible first | exact HI0.out | apply IsS118.alloc | apply IsS118.drewN | apply IsS118.drew | apply IsS118.set_1 | apply IsS118.set_2 | refine IsS118.far ?_ NB0_239.out _ | refine IsS118.far ?_ NB0_248.out _) | exact HI0.out)) (by (with_reducible repeat (first | apply Kd.R_alloc | apply Kd.R_drewN | apply Kd.R_drew)); exact HO278.out) (by decide)) hk (fun _ h => h.2)) (fun _ h => h.1)) (KeepBut.trans (by repeat (first | (with_reducible first | exact HK.out | apply KeepBut.set_ | apply keep_drewN | apply keep_drew | apply keep_alloc | refine keep_far ?_ GW239.out _ | refine keep_far ?_ GW248.out _) | exact HK.out)) hk (.inl rfl)) hb hi
  clear BK239 HO245 BK248 HO278 HK HB HI0
  obtain ⟨BK239, HO245, BK248, HO278, HK, HB, HI0⟩ := n_
  (try clear hb)
  (try clear hb2)
  (try clear hk)
  (try clear hi)
  have p72 : 0 ≤ (t249 : Int) := of_decide_eq_true (by first | (with_reducible assumption) | assumption)
  have q72 : (t249 : Int) < ((t243.length : Int) : Int) := of_decide_eq_true (by first | (with_reducible assumption) | assumption)
  obtain ⟨go72, co72, eo72, gb72, gl72, cl72, HG72⟩ := Kd.R_form HO245.out (by omega)
  (first | cases eo72 | (injection eo72 with ea_ en_ ec_; (first | subst ea_ | (injection ea_ with ea_; subst ea_)); subst ec_; clear en_))
  have GB72 := Aside0.mk gb72
  have GG72 := Aside0.mk HG72
  clear gb72 gl72 HG72
  obtain ⟨ce72, hcl72, hM72, hcc72, hfr72⟩ := Kd.R_elem HO245.out z23 (t249 : Int) p72 q72
  obtain rfl := k23_openM hM72
  have hx72_0 : World.cell? _ ⟨go72, (t249 : Int).toNat * 5, none⟩ = some (.int .i64 ((rd_T23 t243 t249).f0)) := hcc72 0 _ rfl
  have hx72_1 : World.cell? _ ⟨go72, (t249 : Int).toNat * 5 + 1, none⟩ = some (.int .i64 ((rd_T23 t243 t249).f1)) := hcc72 1 _ rfl
  have hx72_2 : World.cell? _ ⟨go72, (t249 : Int).toNat * 5 + 2, none⟩ = some (.int .i64 ((rd_T23 t243 t249).f2)) := hcc72 2 _ rfl
  have hx72_3 : World.cell? _ ⟨go72, (t249 : Int).toNat * 5 + 3, none⟩ = some (.int .i64 ((rd_T23 t243 t249).f3)) := hcc72 3 _ rfl
  have hx72_4 : World.cell? _ ⟨go72, (t249 : Int).toNat * 5 + 4, none⟩ = some (.int .i64 ((rd_T23 t243 t249).f4)) := hcc72 4 _ rfl
  have hf72_0 : World.frozen? _ ⟨go72, (t249 : Int).toNat * 5, none⟩ = false := hfr72 0
  have hf72_1 : World.frozen? _ ⟨go72, (t249 : Int).toNat * 5 + 1, none⟩ = false := hfr72 1
  have hf72_2 : World.frozen? _ ⟨go72, (t249 : Int).toNat * 5 + 2, none⟩ = false := hfr72 2
  have hf72_3 : World.frozen? _ ⟨go72, (t249 : Int).toNat * 5 + 3, none⟩ = false := hfr72 3
  have hf72_4 : World.frozen? _ ⟨go72, (t249 : Int).toNat * 5 + 4, none⟩ = false := hfr72 4
  clear hcl72 hcc72 hfr72; (try clear hM72)
  replace p72 := eq_true p72
  replace q72 := eq_true q72
  have HN0_go72 := Aside0.mk (show g ≠ go72 from by have h_ := IsS118.own_ne HI0.out HO245.out (by decide); intro e_; exact h_ (by rw [e_]; rfl))
  obtain ⟨ce78, hcl78, hM78, hcc78, hfr78⟩ := Kd.R_elem HO245.out z23 (t249 : Int) (of_decide_eq_true (by first | (with_reducible assumption) | assumption)) (by have h_ : (t249 : Int) < ((t243.length : Int) : Int) := of_decide_eq_true (by first | (with_reducible assumption) | assumption); first | exact h_ | (have e_ := (Kd.R_reads' HO245.out).1; omega) | simpa using h_)
  obtain rfl := k23_openM hM78
  have HP78 := (Kd.R_seg HO245.out (t249 : Int) (of_decide_eq_true (by first | (with_reducible assumption) | assumption)) (by have h_ : (t249 : Int) < ((t243.length : Int) : Int) := of_decide_eq_true (by first | (with_reducible assumption) | assumption); first | exact h_ | (have e_ := (Kd.R_reads' HO245.out).1; omega) | simpa using h_) (seg := [.int .i64 t279]) (j := 3) hcl78 hcc78 (show 4 ≤ 5 from by decide) (x' := (⟨(rd_T23 t243 t249).f0, (rd_T23 t243 t249).f1, (rd_T23 t243 t249).f2, t279, (rd_T23 t243 t249).f4⟩ : S23)) (k23_mkM _ _ _ (⟨(rd_T23 t243 t249).f0, (rd_T23 t243 t249).f1, (rd_T23 t243 t249).f2, t279, (rd_T23 t243 t249).f4⟩ : S23) ) (fun _ hk => hk)).1
  rw [← Ny282.out] at HP78
  have HQ78 := Aside0.mk HP78
  clear hcl78 hcc78 hfr78 HP78; (try clear hM78)
  refine hK.out _ _ ((blk_cell BK248.out 0).trans rfl) (fun hHeld => ?_)
  clear hK K
  refine norm_ (a' := ?_) ?_ ?_
  rotate_left
  ·show Act.put _ (some 56) _ = _
   simp only [Act.put, List.setIfInBounds_toArray, List.set_cons_zero, List.set_cons_succ, i64_w, i32_w]
   rfl
  refine pure_ (i := 7) (N := some 57) (v := ?_) (a' := ?_) #[true, true, true, true, true, true, true, true, false, false] rfl rfl (any_of HT_.out (by kernel_rfl)) (fun _ _ _ h => h) (Or.inl ⟨by rfl, ?_⟩) ?_ ?_
  rotate_left
  ·intro w'
   go_simp
   with_reducible rfl
  rotate_left
  ·simp only [Act.put, List.setIfInBounds_toArray, List.set_cons_zero, List.set_cons_succ, i64_w, i32_w]
   rfl
  refine pure_ (i := 8) (N := some 58) (v := ?_) (a' := ?_) #[true, true, true, true, true, true, true, true, true, false] rfl rfl (any_of HT_.out (by kernel_rfl)) (fun _ _ _ h => h) (Or.inl ⟨by rfl, ?_⟩) ?_ ?_
  rotate_left
  ·intro w'
   go_simp
   with_reducible rfl
  rotate_left
  ·simp only [Act.put, List.setIfInBounds_toArray, List.set_cons_zero, List.set_cons_succ, i64_w, i32_w]
   rfl
  refine last_ (i := 9) (N := none) #[true, true, true, true, true, true, true, true, true, true] rfl rfl (one_of HT_.out (by kernel_rfl)) (by decide) (fun K hK => ?_)
  refine skip_ (w1 := ?_) (by rfl) rfl ?_ ?_
  rotate_left
  ·go_simp
   rfl
  refine hK.out _ _ ?_
  clear hK K
  refine done_ (done_of HT_.out (by kernel_rfl)) ?_
  have n0_ : Aside0 (Kd.R k23 23 (w77.setCell ⟨go72, (t249 : Int).toNat * 5 + 3, none⟩ (.int .i64 t279)) w.heap.size (fun _ => True) (.slice (some ⟨go72, 0, none⟩) t243.length co11) y282) := ⟨by (with_reducible repeat (first | apply Kd.R_alloc | apply Kd.R_drewN | apply Kd.R_drew)); exact HQ78.out⟩
  have n1_ : Aside0 (Kd.R (Kd.int .i64) 3 (w77.setCell ⟨go72, (t249 : Int).toNat * 5 + 3, none⟩ (.int .i64 t279)) w.heap.size (fun _ => True) (.slice Ao76 y276.length co76) y276) := ⟨by (with_reducible repeat (first | apply Kd.R_alloc | apply Kd.R_drewN | apply Kd.R_drew)); exact Kd.R_mono (Kd.R_far (p := ⟨go72, (t249 : Int).toNat * 5 + 3, none⟩) (Kd.R_types HO278.out GG72.out (by decide)) (fun _ hk => hk.2) (.int .i64 t279)) (fun _ hk => trivial)⟩
  have n2_ : Aside0 ((w77.setCell ⟨go72, (t249 : Int).toNat * 5 + 3, none⟩ (.int .i64 t279)).heap[gb239]? = some (.cells #[.slice none 0 0] 65 (0, 0))) := ⟨by (with_reducible repeat (first | refine blk_drewN ?_ _ | refine blk_drew ?_ | refine blk_alloc ?_ _)); refine blk_far ?_ (by have h_ := Kd.R_ne HO245.out BK239.out (by decide); intro e_; exact h_ (by rw [e_]; rfl)) _; (with_reducible repeat (first | refine blk_drewN ?_ _ | refine blk_drew ?_ | refine blk_alloc ?_ _)); exact BK239.out⟩
  have n3_ : Aside0 ((w77.setCell ⟨go72, (t249 : Int).toNat * 5 + 3, none⟩ (.int .i64 t279)).heap[gb248]? = some (.cells #[.slice (some ⟨go72, 0, none⟩) t243.length co11] 65 (0, 0))) := ⟨by (with_reducible repeat (first | refine blk_drewN ?_ _ | refine blk_drew ?_ | refine blk_alloc ?_ _)); refine blk_far ?_ (by have h_ := Kd.R_ne HO245.out BK248.out (by decide); intro e_; exact h_ (by rw [e_]; rfl)) _; (with_reducible repeat (first | refine blk_drewN ?_ _ | refine blk_drew ?_ | refine blk_alloc ?_ _)); exact BK248.out⟩
  have n4_ : Aside0 (IsS118 w0 (w77.setCell ⟨go72, (t249 : Int).toNat * 5 + 3, none⟩ (.int .i64 t279)) g s0_0 t280 t281) := ⟨by repeat (first | (with_reducible first | exact HI0.out | apply IsS118.alloc | apply IsS118.drewN | apply IsS118.drew | apply IsS118.set_1 | apply IsS118.set_2 | refine IsS118.far ?_ HN0_go72.out _ | refine IsS118.far ?_ NB0_239.out _ | refine IsS118.far ?_ NB0_248.out _) | exact HI0.out)⟩
  have n5_ : Aside0 (KeepBut w (w77.setCell ⟨go72, (t249 : Int).toNat * 5 + 3, none⟩ (.int .i64 t279)) g none) := ⟨by repeat (first | (with_reducible first | exact HK.out | apply KeepBut.set_ | apply keep_drewN | apply keep_drew | apply keep_alloc | refine keep_far ?_ GB72.out _ | refine keep_far ?_ GW239.out _ | refine keep_far ?_ GW248.out _) | exact HK.out)⟩
  have n6_ : Aside0 (Below w0.heap.size w0 (w77.setCell ⟨go72, (t249 : Int).toNat * 5 + 3, none⟩ (.int .i64 t279))) := ⟨by repeat (first | (with_reducible first | exact HB.out | apply below_alloc | apply pw_below_drewN | apply below_drew1 | refine below_set ?_ (Nat.le_trans HL.out GB72.out) | refine below_set ?_ (IsS118.ge HI0.out) | refine below_set ?_ GE239.out | refine below_set ?_ GE248.out) | exact HB.out)⟩
  (try clear HO245)
  (try clear HO278)
  (try clear BK239)
  (try clear BK248)
  (try clear HI0)
  (try clear HK)
  (try clear HB)
  generalize (w77.setCell ⟨go72, (t249 : Int).toNat * 5 + 3, none⟩ (.int .i64 t279)) = w79 at n0_ n1_ n2_ n3_ n4_ n5_ n6_ ⊢
  have HO245 := n0_
  have HO278 := n1_
  have BK239 := n2_
  have BK248 := n3_
  have HI0 := n4_
  have HK := n5_
  have HB := n6_
  clear n0_ n1_ n2_ n3_ n4_ n5_ n6_
  have hnb80 := NB248_239.out
  have hnc80 := NB239_248.out
  have hnb81 := NB248_0.out
  have hnc81 := NB0_248.out
  have hcz82_0 : w79.cell? ⟨gb248, 0, none⟩ = some (.slice (some ⟨go72, 0, none⟩) t243.length co11) := (blk_cell BK248.out 0).trans rfl
  have hfz82_0 := blk_frozen BK248.out 0
  have hnb83 := NB239_0.out
  have hnc83 := NB0_239.out
  have hcz84_0 : w79.cell? ⟨gb239, 0, none⟩ = some (.slice none 0 0) := (blk_cell BK239.out 0).trans rfl
  have hfz84_0 := blk_frozen BK239.out 0
  try go_wp2
  refine bodyPost_ret (results_cell_row rfl _ _ gb239 65 #[.slice (some ⟨go72, 0, none⟩) t243.length co11] (0, 0) _ rfl (by (with_reducible repeat (first | refine blk_drewN ?_ _ | refine blk_drew ?_ | refine blk_alloc ?_ _)); refine blk_put (cs := #[.slice none 0 0]) ?_ 0 _ rfl; (with_reducible repeat (first | refine blk_drewN ?_ _ | refine blk_drew ?_ | refine blk_alloc ?_ _)); exact BK239.out) Tryd.underlying65 rfl (by kernel_rfl)) rfl ?_
  exact ⟨_, by first | rfl | (simp [errW_none, errW_some] <;> rfl) | (simp [*, errW_none, errW_some] <;> rfl), by (with_reducible repeat (first | apply Kd.R_alloc | apply Kd.R_drewN | apply Kd.R_drew)); exact Kd.R_mono (Kd.R_far (p := ⟨gb239, 0, none⟩) (Kd.R_types HO245.out BK239.out (by decide)) (fun _ hk => hk.2) (.slice (some ⟨go72, 0, none⟩) t243.length co11)) (fun _ hk => trivial), by repeat (first | (with_reducible first | exact HI0.out | apply IsS118.alloc | apply IsS118.drewN | apply IsS118.drew | apply IsS118.set_1 | apply IsS118.set_2 | refine IsS118.far ?_ NB0_239.out _ | refine IsS118.far ?_ NB0_248.out _) | exact HI0.out), by repeat (first | (with_reducible first | exact HB.out | apply below_alloc | apply pw_below_drewN | apply below_drew1 | refine below_set ?_ (IsS118.ge HI0.out) | refine below_set ?_ GE239.out | refine below_set ?_ GE248.out) | exact HB.out), by repeat (first | (with_reducible first | exact HK.out | apply KeepBut.set_ | apply keep_drewN | apply keep_drew | apply keep_alloc | refine keep_far ?_ GW239.out _ | refine keep_far ?_ GW248.out _) | exact HK.out)⟩
 rw [if_neg c68] at H
 have c68b0 : (t252 == 3) = false := beq_eq_false_iff_ne.mpr c68
 have c68b1 : (t252 != 3) = true := bne_iff_ne.mpr c68
 by_cases c85 : t252 = 4
 case neg =>
  rw [if_neg c85] at H
  have c85b0 : (t252 == 4) = false := beq_eq_false_iff_ne.mpr c85
  have c85b1 : (t252 != 4) = true := bne_iff_ne.mpr c85
  by_cases c102 : t252 = 5
  case pos =>
   rw [if_pos c102] at H
   have c102b0 : (t252 == 5) = true := beq_iff_eq.mpr c102
   have c102b1 : (t252 != 5) = false := bne_eq_false_iff_eq.mpr c102
   clear c102
   by_cases c103 : t243.length < 3518437208883
   case neg =>
    rw [if_neg c103] at H
    exact absurd H (by simp)
   rw [if_pos c103] at H
   have LMc103 := Aside0.mk c103
   clear c103
   obtain ⟨y290, hy290⟩ : ∃ y_ : List (S23), y_ = (t243 ++ [(⟨(-1), 0, 0, 0, 0⟩ : S23)]) := ⟨_, rfl⟩
   replace H : (some (y290, t253, t254)) = some (r1, r2, r3) := by first | (rw [hy290]; with_reducible exact H) | (have H2_ := (Option.bind_some _ _).symm.trans H; rw [hy290]; with_reducible exact H2_) | (have H2_ := (Option.bind_some _ _).symm.trans H; with_reducible exact H2_) | with_reducible exact H | (rw [hy290]; exact H) | exact H
   have Ny290 := Aside0.mk hy290
   clear hy290
   simp only [Option.some.injEq, Prod.mk.injEq] at H
   obtain ⟨rfl, rfl, rfl⟩ := H
   have hnb104 := NB248_239.out
   have hnc104 := NB239_248.out
   have hnb105 := NB248_0.out
   have hnc105 := NB0_248.out
   have hcz106_0 : w16.cell? ⟨gb248, 0, none⟩ = some (.slice Ao11 t243.length co11) := (blk_cell BK248.out 0).trans rfl
   have hfz106_0 := blk_frozen BK248.out 0
   go_wp2_with (first | ((with_reducible refine gate_builtin (b := .append) (xs := #[.tmp 72, .tmp 74]) rfl ?_); at_builtin; refine Kd.R_append k23 w.heap.size rfl (.tmp 72) (.tmp 74) 63 23 (.agg #[(.int .i64 0), (.int .i64 0), (.int .i64 0), (.int .i64 0), (.int .i64 0)]) 40 rfl Tryd.underlying63 info23 rfl (by decide) (by omega) (.slice Ao11 t243.length co11) t243 (⟨(-1), 0, 0, 0, 0⟩ : S23) [.int .i64 (-1), .int .i64 0, .int .i64 0, .int .i64 0, .int .i64 0] (fun _ => True) (fun _ => False) rfl rfl ?aP (fun _ hk => hk.elim) ?aF ?aO (Below.refl _ _) ?aS ?aL ?_; (case aP => exact k23_mkM _ _ _ (⟨(-1), 0, 0, 0, 0⟩ : S23)); (case aF => exact (fun _ _ => trivial)); (case aO => exact (by (with_reducible repeat (first | apply Kd.R_alloc | apply Kd.R_drewN | apply Kd.R_drew)); exact HO245.out)); (case aS => exact (keep_size (w := w) (g := g) (row := none) (by repeat (first | (with_reducible first | exact HK.out | apply KeepBut.set_ | apply keep_drewN | apply keep_drew | apply keep_alloc | refine keep_far ?_ GW239.out _ | refine keep_far ?_ GW248.out _) | exact HK.out)))); (case aL => have := LMc103.out; omega); intro v291 w107 ho hb hg hat; rw [← Ny290.out] at ho; have n_ := spec_l17Bent.K6_ (IsS118.grown (by repeat (first | (with_reducible first | exact HI0.out | apply IsS118.alloc | apply IsS118.drewN | apply IsS118.drew | apply IsS118.set_1 | apply IsS118.set_2 | refine IsS118.far ?_ NB0_239.out _ | refine IsS118.far ?_ NB0_248.out _) | exact HI0.out)) hg (IsS118.own_ne HI0.out HO245.out (by decide))) (blk_grown (g := gb239) (o := .cells #[.slice none 0 0] 65 (0, 0)) (by (with_reducible repeat (first | refine blk_drewN ?_ _ | refine blk_drew ?_ | refine blk_alloc ?_ _)); exact BK239.out) hg (Kd.R_ne HO245.out BK239.out (by decide))) (blk_grown (g := gb248) (o := .cells #[.slice Ao11 t243.length co11] 65 (0, 0)) (by (with_reducible repeat (first | refine blk_drewN ?_ _ | refine blk_drew ?_ | refine blk_alloc ?_ _)); exact BK248.out) hg (Kd.R_ne HO245.out BK248.out (by decide))) (below_weaken (by repeat (first | (with_reducible first | exact HB.out | apply below_alloc | apply pw_below_drewN | apply below_drew1 | refine below_set ?_ (IsS118.ge HI0.out) | refine below_set ?_ GE239.out | refine below_set ?_ GE248.out) | exact HB.out)) HL.out hb) (KeepBut.trans (by repeat (first | (with_reducible first | exact HK.out | apply KeepBut.set_ | apply keep_drewN | apply keep_drew | apply keep_alloc | refine keep_far ?_ GW239.out _ | refine keep_far ?_ GW248.out _) | exact HK.out)) (KeepBut.of_grown hg g) (Kd.R_base2 HO245.out)) ho; clear HI0 BK239 BK248 HB HK HO245; obtain ⟨HI0, BK239, BK248, HB, HK, HO292⟩ := n_; clear ho hb hg hat; obtain ⟨Ao108, co108, eo108⟩ := Kd.R_slice HO292.out; subst eo108; have hcz109_0 : w107.cell? ⟨gb248, 0, none⟩ = some (.slice Ao11 t243.length co11) := (blk_cell BK248.out 0).trans rfl; have hfz109_0 := blk_frozen BK248.out 0; have hnb110 := NB239_0.out; have hnc110 := NB0_239.out; have hcz111_0 : w107.cell? ⟨gb239, 0, none⟩ = some (.slice none 0 0) := (blk_cell BK239.out 0).trans rfl; have hfz111_0 := blk_frozen BK239.out 0))
   refine bodyPost_ret (results_cell_row rfl _ _ gb239 65 #[.slice Ao108 y290.length co108] (0, 0) _ rfl (by (with_reducible repeat (first | refine blk_drewN ?_ _ | refine blk_drew ?_ | refine blk_alloc ?_ _)); refine blk_put (cs := #[.slice none 0 0]) ?_ 0 _ rfl; (with_reducible repeat (first | refine blk_drewN ?_ _ | refine blk_drew ?_ | refine blk_alloc ?_ _)); refine blk_far ?_ NB239_248.out _; (with_reducible repeat (first | refine blk_drewN ?_ _ | refine blk_drew ?_ | refine blk_alloc ?_ _)); exact BK239.out) Tryd.underlying65 rfl (by kernel_rfl)) rfl ?_
   exact ⟨_, by first | rfl | (simp [errW_none, errW_some] <;> rfl) | (simp [*, errW_none, errW_some] <;> rfl), by (with_reducible repeat (first | apply Kd.R_alloc | apply Kd.R_drewN | apply Kd.R_drew)); exact Kd.R_mono (Kd.R_far (p := ⟨gb239, 0, none⟩) (Kd.R_far (p := ⟨gb248, 0, none⟩) (Kd.R_types (Kd.R_types HO292.out BK248.out (by decide)) BK239.out (by decide)) (fun _ hk => hk.1.2) (.slice Ao108 y290.length co108)) (fun _ hk => hk.2) (.slice Ao108 y290.length co108)) (fun _ hk => trivial), by repeat (first | (with_reducible first | exact HI0.out | apply IsS118.alloc | apply IsS118.drewN | apply IsS118.drew | apply IsS118.set_1 | apply IsS118.set_2 | refine IsS118.far ?_ NB0_239.out _ | refine IsS118.far ?_ NB0_248.out _) | exact HI0.out), by repeat (first | (with_reducible first | exact HB.out | apply below_alloc | apply pw_below_drewN | apply below_drew1 | refine below_set ?_ (IsS118.ge HI0.out) | refine below_set ?_ GE239.out | refine below_set ?_ GE248.out) | exact HB.out), by repeat (first | (with_reducible first | exact HK.out | apply KeepBut.set_ | apply keep_drewN | apply keep_drew | apply keep_alloc | refine keep_far ?_ GW239.out _ | refine keep_far ?_ GW248.out _) | exact HK.out)⟩
  rw [if_neg c102] at H
  have c102b0 : (t252 == 5) = false := beq_eq_false_iff_ne.mpr c102
  have c102b1 : (t252 != 5) = true := bne_iff_ne.mpr c102
  by_cases c112 : t252 = 6
  case neg =>
   rw [if_neg c112] at H
   have c112b0 : (t252 == 6) = false := beq_eq_false_iff_ne.mpr c112
   have c112b1 : (t252 != 6) = true := bne_iff_ne.mpr c112
   simp only [Option.some.injEq, Prod.mk.injEq] at H
   obtain ⟨rfl, rfl, rfl⟩ := H
   have hnb121 := NB248_239.out
   have hnc121 := NB239_248.out
   have hnb122 := NB248_0.out
   have hnc122 := NB0_248.out
   have hcz123_0 : w16.cell? ⟨gb248, 0, none⟩ = some (.slice Ao11 t243.length co11) := (blk_cell BK248.out 0).trans rfl
   have hfz123_0 := blk_frozen BK248.out 0
   have hnb124 := NB239_0.out
   have hnc124 := NB0_239.out
   have hcz125_0 : w16.cell? ⟨gb239, 0, none⟩ = some (.slice none 0 0) := (blk_cell BK239.out 0).trans rfl
   have hfz125_0 := blk_frozen BK239.out 0
   go_wp2
   refine bodyPost_ret (results_cell_row rfl _ _ gb239 65 #[.slice Ao11 t243.length co11] (0, 0) _ rfl (by (with_reducible repeat (first | refine blk_drewN ?_ _ | refine blk_drew ?_ | refine blk_alloc ?_ _)); refine blk_put (cs := #[.slice none 0 0]) ?_ 0 _ rfl; (with_reducible repeat (first | refine blk_drewN ?_ _ | refine blk_drew ?_ | refine blk_alloc ?_ _)); exact BK239.out) Tryd.underlying65 rfl (by kernel_rfl)) rfl ?_
   exact ⟨_, by first | rfl | (simp [errW_none, errW_some] <;> rfl) | (simp [*, errW_none, errW_some] <;> rfl), by (with_reducible repeat (first | apply Kd.R_alloc | apply Kd.R_drewN | apply Kd.R_drew)); exact Kd.R_mono (Kd.R_far (p := ⟨gb239, 0, none⟩) (Kd.R_types HO245.out BK239.out (by decide)) (fun _ hk => hk.2) (.slice Ao11 t243.length co11)) (fun _ hk => trivial), by repeat (first | (with_reducible first | exact HI0.out | apply IsS118.alloc | apply IsS118.drewN | apply IsS118.drew | apply IsS118.set_1 | apply IsS118.set_2 | refine IsS118.far ?_ NB0_239.out _ | refine IsS118.far ?_ NB0_248.out _) | exact HI0.out), by repeat (first | (with_reducible first | exact HB.out | apply below_alloc | apply pw_below_drewN | apply below_drew1 | refine below_set ?_ (IsS118.ge HI0.out) | refine below_set ?_ GE239.out | refine below_set ?_ GE248.out) | exact HB.out), by repeat (first | (with_reducible first | exact HK.out | apply KeepBut.set_ | apply keep_drewN | apply keep_drew | apply keep_alloc | refine keep_far ?_ GW239.out _ | refine keep_far ?_ GW248.out _) | exact HK.out)⟩
  rw [if_pos c112] at H
  have c112b0 : (t252 == 6) = true := beq_iff_eq.mpr c112
  have c112b1 : (t252 != 6) = false := bne_eq_false_iff_eq.mpr c112
  clear c112
  by_cases c113 : 0 ≤ t249
  case neg =>
   rw [if_neg c113] at H
   exact absurd H (by simp)
  rw [if_pos c113] at H
  have c113b0 := eq_true c113
  have c113b1 : decide (0 ≤ t249) = true := decide_eq_true c113
  clear c113
  by_cases c114 : t249 ≤ (t243.length : Int)
  case neg =>
   rw [if_neg c114] at H
   exact absurd H (by simp)
  rw [if_pos c114] at H
  have c114b0 := eq_true c114
  have c114b1 : decide (t249 ≤ (t243.length : Int)) = true := decide_eq_true c114
  clear c114
  obtain ⟨y293, hy293⟩ : ∃ y_ : List (S23), y_ = (t243.take (t249 : Int).toNat) := ⟨_, rfl⟩
  replace H : (some (y293, t253, t254)) = some (r1, r2, r3) := by first | (rw [hy293]; with_reducible exact H) | (have H2_ := (Option.bind_some _ _).symm.trans H; rw [hy293]; with_reducible exact H2_) | (have H2_ := (Option.bind_some _ _).symm.trans H; with_reducible exact H2_) | with_reducible exact H | (rw [hy293]; exact H) | exact H
  have Ny293 := Aside0.mk hy293
  clear hy293
  simp only [Option.some.injEq, Prod.mk.injEq] at H
  obtain ⟨rfl, rfl, rfl⟩ := H
  have hnb115 := NB248_239.out
  have hnc115 := NB239_248.out
  have hnb116 := NB248_0.out
  have hnc116 := NB0_248.out
  have hcz117_0 : w16.cell? ⟨gb248, 0, none⟩ = some (.slice Ao11 t243.length co11) := (blk_cell BK248.out 0).trans rfl
  have hfz117_0 := blk_frozen BK248.out 0
  have q118 : (t249 : Int) ≤ ((t243.length : Int) : Int) := of_decide_eq_true (by first | (with_reducible assumption) | assumption)
  obtain ⟨i0118, hi0118, _, hsz118, _⟩ := info_parts info23
  have hcut118 := cut_to (P := Tryd.prog) 63 23 .i64 Tryd.underlying63 hi0118 Ao11 t243.length co11 t249 (of_decide_eq_true (by first | (with_reducible assumption) | assumption)) q118 (Kd.R_reads' HO245.out).2.1
  have hr118 := Kd.R_take (m := (t249 : Int).toNat) HO245.out (by omega)
  have hy118 : y293.length = (t249 : Int).toNat := (by rw [Ny293.out, List.length_take]; omega)
  rw [← Ny293.out] at hr118
  rw [← hy118] at hr118 hcut118
  clear hy118 hi0118 hsz118 HO245
  have HO295 := Aside0.mk hr118
  clear hr118
  replace q118 := eq_true q118
  have hnb119 := NB239_0.out
  have hnc119 := NB0_239.out
  have hcz120_0 : w16.cell? ⟨gb239, 0, none⟩ = some (.slice none 0 0) := (blk_cell BK239.out 0).trans rfl
  have hfz120_0 := blk_frozen BK239.out 0
  go_wp2
  refine bodyPost_ret (results_cell_row rfl _ _ gb239 65 #[.slice Ao11 y293.length co11] (0, 0) _ rfl (by (with_reducible repeat (first | refine blk_drewN ?_ _ | refine blk_drew ?_ | refine blk_alloc ?_ _)); refine blk_put (cs := #[.slice none 0 0]) ?_ 0 _ rfl; (with_reducible repeat (first | refine blk_drewN ?_ _ | refine blk_drew ?_ | refine blk_alloc ?_ _)); refine blk_far ?_ NB239_248.out _; (with_reducible repeat (first | refine blk_drewN ?_ _ | refine blk_drew ?_ | refine blk_alloc ?_ _)); exact BK239.out) Tryd.underlying65 rfl (by kernel_rfl)) rfl ?_
  exact ⟨_, by first | rfl | (simp [errW_none, errW_some] <;> rfl) | (simp [*, errW_none, errW_some] <;> rfl), by (with_reducible repeat (first | apply Kd.R_alloc | apply Kd.R_drewN | apply Kd.R_drew)); exact Kd.R_mono (Kd.R_far (p := ⟨gb239, 0, none⟩) (Kd.R_far (p := ⟨gb248, 0, none⟩) (Kd.R_types (Kd.R_types HO295.out BK248.out (by decide)) BK239.out (by decide)) (fun _ hk => hk.1.2) (.slice Ao11 y293.length co11)) (fun _ hk => hk.2) (.slice Ao11 y293.length co11)) (fun _ hk => trivial), by repeat (first | (with_reducible first | exact HI0.out | apply IsS118.alloc | apply IsS118.drewN | apply IsS118.drew | apply IsS118.set_1 | apply IsS118.set_2 | refine IsS118.far ?_ NB0_239.out _ | refine IsS118.far ?_ NB0_248.out _) | exact HI0.out), by repeat (first | (with_reducible first | exact HB.out | apply below_alloc | apply pw_below_drewN | apply below_drew1 | refine below_set ?_ (IsS118.ge HI0.out) | refine below_set ?_ GE239.out | refine below_set ?_ GE248.out) | exact HB.out), by repeat (first | (with_reducible first | exact HK.out | apply KeepBut.set_ | apply keep_drewN | apply keep_drew | apply keep_alloc | refine keep_far ?_ GW239.out _ | refine keep_far ?_ GW248.out _) | exact HK.out)⟩
 rw [if_pos c85] at H
 have c85b0 : (t252 == 4) = true := beq_iff_eq.mpr c85
 have c85b1 : (t252 != 4) = false := bne_eq_false_iff_eq.mpr c85
 clear c85
 obtain ⟨y283, hy283⟩ : ∃ y_ : List Int, y_ = (([0, 1, 1099511627776, 1099511627777, (-1099511627777)] : List Int)) := ⟨_, rfl⟩
 replace H : ((spec_l1PickInt.f s0_0 t253 t254 y283).bind fun bt286 => (if 0 ≤ t249 then (if t249 < (t243.length : Int) then (some ((t243.set (t249 : Int).toNat (⟨(rd_T23 t243 t249).f0, (rd_T23 t243 t249).f1, (rd_T23 t243 t249).f2, (rd_T23 t243 t249).f3, bt286.1⟩ : S23)), bt286.2.1, bt286.2.2)) else (none)) else (none))) = some (r1, r2, r3) := by first | (rw [hy283]; with_reducible exact H) | (have H2_ := (Option.bind_some _ _).symm.trans H; rw [hy283]; with_reducible exact H2_) | (have H2_ := (Option.bind_some _ _).symm.trans H; with_reducible exact H2_) | with_reducible exact H | (rw [hy283]; exact H) | exact H
 have Ny283 := Aside0.mk hy283
 clear hy283
 replace H := Option.bind_eq_some_iff.mp H
 obtain ⟨⟨t286, t287, t288⟩, A860, H⟩ := H
 replace H : (if 0 ≤ t249 then (if t249 < (t243.length : Int) then (some ((t243.set (t249 : Int).toNat (⟨(rd_T23 t243 t249).f0, (rd_T23 t243 t249).f1, (rd_T23 t243 t249).f2, (rd_T23 t243 t249).f3, t286⟩ : S23)), t287, t288)) else (none)) else (none)) = some (r1, r2, r3) := H
 have A86 := Aside0.mk A860
 clear A860
 by_cases c87 : 0 ≤ t249
 case neg =>
  rw [if_neg c87] at H
  exact absurd H (by simp)
 rw [if_pos c87] at H
 have c87b0 : decide (0 ≤ t249) = true := decide_eq_true c87
 clear c87
 by_cases c88 : t249 < (t243.length : Int)
 case neg =>
  rw [if_neg c88] at H
  exact absurd H (by simp)
 rw [if_pos c88] at H
 have c88b0 : decide (t249 < (t243.length : Int)) = true := decide_eq_true c88
 clear c88
 obtain ⟨y289, hy289⟩ : ∃ y_ : List (S23), y_ = (t243.set (t249 : Int).toNat (⟨(rd_T23 t243 t249).f0, (rd_T23 t243 t249).f1, (rd_T23 t243 t249).f2, (rd_T23 t243 t249).f3, t286⟩ : S23)) := ⟨_, rfl⟩
 replace H : (some (y289, t287, t288)) = some (r1, r2, r3) := by first | (rw [hy289]; with_reducible exact H) | (have H2_ := (Option.bind_some _ _).symm.trans H; rw [hy289]; with_reducible exact H2_) | (have H2_ := (Option.bind_some _ _).symm.trans H; with_reducible exact H2_) | with_reducible exact H | (rw [hy289]; exact H) | exact H
 have Ny289 := Aside0.mk hy289
 clear hy289
 simp only [Option.some.injEq, Prod.mk.injEq] at H
 obtain ⟨rfl, rfl, rfl⟩ := H
 try go_wp2
 have n_ := spec_l17Bent.K6_ (Kd.R_drew HO245.out) (blk_drew BK239.out) (blk_drew BK248.out) (IsS118.drew HI0.out) (keep_drew HK.out) (below_drew1 HB.out)
 clear HO245 BK239 BK248 HI0 HK HB
 obtain ⟨HO245, BK239, BK248, HI0, HK, HB⟩ := n_
 refine start_ (n := 9) (S := fun w' => w'.cell? ⟨gb248, 0, none⟩ = some (.slice Ao11 t243.length co11)) (ds := [8]) #[false, false, false, false, false, false, false, false, false] (by kernel_rfl) rfl rfl ((blk_cell BK248.out 0).trans rfl) (fun hHeld => ?_); refine with_tabW spec_l17Bent.tab13 spec_l17Bent.bits13 (fun HT_ HW_ => ?_)
 generalize w16.drew = w90 at HO245 BK239 BK248 HI0 HK HB hHeld ⊢
 refine pure_ (i := 0) (N := some 61) (v := ?_) (a' := ?_) #[true, false, false, false, false, false, false, false, false] rfl rfl (any_of HT_.out (by kernel_rfl)) (fun _ _ _ h => h) (Or.inl ⟨by rfl, ?_⟩) ?_ ?_
 rotate_left
 ·intro w'
  go_simp
  with_reducible rfl
 rotate_left
 ·simp only [Act.put, List.setIfInBounds_toArray, List.set_cons_zero, List.set_cons_succ, i64_w, i32_w]
  rfl
 refine pure_ (i := 2) (N := some 63) (v := ?_) (a' := ?_) #[true, false, true, false, false, false, false, false, false] rfl rfl (any_of HT_.out (by kernel_rfl)) (fun _ _ _ h => h) (Or.inl ⟨by rfl, ?_⟩) ?_ ?_
 rotate_left
 ·intro w'
  go_simp
  with_reducible rfl
 rotate_left
 ·simp only [Act.put, List.setIfInBounds_toArray, List.set_cons_zero, List.set_cons_succ, i64_w, i32_w]
  rfl
 refine pure_ (i := 3) (N := some 64) (v := ?_) (a' := ?_) #[true, false, true, true, false, false, false, false, false] rfl rfl (any_of HT_.out (by kernel_rfl)) (fun _ _ _ h => h) (Or.inl ⟨by rfl, ?_⟩) ?_ ?_
 rotate_left
 ·intro w'
  go_simp
  with_reducible rfl
 rotate_left
 ·simp only [Act.put, List.setIfInBounds_toArray, List.set_cons_zero, List.set_cons_succ, i64_w, i32_w]
  rfl
 refine take_ (i := 1) (N := some 62) (v := ?_) (a' := ?_) #[true, true, true, true, false, false, false, false, false] rfl rfl (take_ofW HT_.out HW_.out (by kernel_rfl)) (fun _ _ _ h => h) (Or.inl ⟨by rfl, ?_⟩) hHeld ?_ ?_
 rotate_left
 ·intro w' s0
  go_simp
  with_reducible rfl
 rotate_left
 ·simp only [Act.put, List.setIfInBounds_toArray, List.set_cons_zero, List.set_cons_succ, i64_w, i32_w]
  rfl
 refine one_ (i := 4) (N := some 65) #[true, true, true, true, true, false, false, false, false] rfl rfl (one_of HT_.out (by kernel_rfl)) (by decide) (fun K hK => ?_)
 refine Kd.R_lit_step (Kd.int .i64) _ 3 ?hg (N := 65) ?hd (xs := ([0, 1, 1099511627776, 1099511627777, (-1099511627777)] : List Int)) (inner := [.int .i64 0, .int .i64 1, .int .i64 1099511627776, .int .i64 1099511627777, .int .i64 (-1099511627777)]) (ok := fun _ => True) (okp := fun _ => True) ?hr ?hp (fun _ hk => hk) trivial (Below.refl _ _) (Nat.le_refl _) (by simp) ?_; (case hd => rfl); (case hg => rfl); (case hr => first | (go_simp; done) | (go_simp; rfl)); (case hp => exact (Reps.one (show Kd.M (Kd.int .i64) _ _ _ 0 [.int .i64 0] from rfl) (Reps.one (show Kd.M (Kd.int .i64) _ _ _ 1 [.int .i64 1] from rfl) (Reps.one (show Kd.M (Kd.int .i64) _ _ _ 1099511627776 [.int .i64 1099511627776] from rfl) (Reps.one (show Kd.M (Kd.int .i64) _ _ _ 1099511627777 [.int .i64 1099511627777] from rfl) (Reps.one (show Kd.M (Kd.int .i64) _ _ _ (-1099511627777) [.int .i64 (-1099511627777)] from rfl) (Reps.none _ _)))))))
 intro v284 w91 ho92 hb hg_ hnew_
 clear hg_ hnew_
 (first | rw [← Ny283.out] at ho92 | (simp only [Int.reduceToNat] at ho92; rw [← Ny283.out] at ho92))
 have n_ := spec_l17Bent.K7_ (Kd.R_below (by (with_reducible repeat (first | apply Kd.R_alloc | apply Kd.R_drewN | apply Kd.R_drew)); exact HO245.out) hb) (Kd.R_lower ho92 (keep_size (w := w) (g := g) (row := none) (by repeat (first | (with_reducible first | exact HK.out | apply KeepBut.set_ | apply keep_drewN | apply keep_drew | apply keep_alloc | refine keep_far ?_ GW239.out _ | refine keep_far ?_ GW248.out _) | exact HK.out)))) (IsS118.below (by repeat (first | (with_reducible first | exact HI0.out | apply IsS118.alloc | apply IsS118.drewN | apply IsS118.drew | apply IsS118.set_1 | apply IsS118.set_2 | refine IsS118.far ?_ NB0_239.out _ | refine IsS118.far ?_ NB0_248.out _) | exact HI0.out)) hb) (blk_below (g := gb239) (o := .cells #[.slice none 0 0] 65 (0, 0)) (by (with_reducible repeat (first | refine blk_drewN ?_ _ | refine blk_drew ?_ | refine blk_alloc ?_ _)); exact BK239.out) hb) (blk_below (g := gb248) (o := .cells #[.slice Ao11 t243.length co11] 65 (0, 0)) (by (with_reducible repeat (first | refine blk_drewN ?_ _ | refine blk_drew ?_ | refine blk_alloc ?_ _)); exact BK248.out) hb) (KeepBut.trans (by repeat (first | (with_reducible first | exact HK.out | apply KeepBut.set_ | apply keep_drewN | apply keep_drew | apply keep_alloc | refine keep_far ?_ GW239.out _ | refine keep_far ?_ GW248.out _) | exact HK.out)) (KeepBut.of_below hb g none) (.inl rfl)) (below_step (by repeat (first | (with_reducible first | exact HB.out | apply below_alloc | apply pw_below_drewN | apply below_drew1 | refine below_set ?_ (IsS118.ge HI0.out) | refine below_set ?_ GE239.out | refine below_set ?_ GE248.out) | exact HB.out)) hb)
 clear HO245 HI0 BK239 BK248 HK HB
 obtain ⟨HO245, HO285, HI0, BK239, BK248, HK, HB⟩ := n_
 clear hb ho92
 obtain ⟨Ao93, co93, eo93⟩ := Kd.R_slice HO285.out
 (first | subst eo93 | (injection eo93 with f1_ f2_ f3_; have f4_ := f1_.symm; have f5_ := f3_.symm; clear f1_ f2_ f3_; subst f4_; subst f5_))
 refine hK.out _ _ ((blk_cell BK248.out 0).trans rfl) (fun hHeld => ?_)
 clear hK K
 refine norm_ (a' := ?_) ?_ ?_
 rotate_left
 ·show Act.put _ (some 65) _ = _
  simp only [Act.put, List.setIfInBounds_toArray, List.set_cons_zero, List.set_cons_succ, i64_w, i32_w]
  rfl
 refine one_ (i := 5) (N := some 66) #[true, true, true, true, true, true, false, false, false] rfl rfl (one_of HT_.out (by kernel_rfl)) (by decide) (fun K hK => ?_)
 refine goes_ Tryd.func82 (by kernel_rfl) rfl #[.pointer (some ⟨g, 0, none⟩), .slice Ao93 y283.length co93] (by rfl) rfl rfl (by (try simp only [List.map_toArray, List.map_cons, List.map_nil]); first | done | rfl | (simp only [List.length_drop, List.length_take]; rfl)) ?_
 with_reducible refine (spec_l1PickInt.calls g s0_0 t253 t254 _ _ y283 t286 t287 t288 w0 _ ?side1 ?side2 ?side3 ?side4 ?side5 A86.out).mono ?_
 (case side1 => repeat (first | (with_reducible first | exact HI0.out | apply IsS118.alloc | apply IsS118.drewN | apply IsS118.drew | apply IsS118.set_1 | apply IsS118.set_2 | refine IsS118.far ?_ NB0_239.out _ | refine IsS118.far ?_ NB0_248.out _) | exact HI0.out))
 (case side2 => repeat (first | (with_reducible first | exact HB.out | apply below_alloc | apply pw_below_drewN | apply below_drew1 | refine below_set ?_ (IsS118.ge HI0.out) | refine below_set ?_ GE239.out | refine below_set ?_ GE248.out) | exact HB.out))
 (case side3 => repeat (first | exact (Kd.R_reads' HO285.out).2.2 | (with_reducible refine Kd.C_alloc ?_ _) | (with_reducible refine Kd.C_drewN ?_ _) | (with_reducible refine Kd.C_drew ?_)))
 (case side4 => exact (Kd.R_reads' HO285.out).2.1)
 (case side5 => exact far_slice (IsS118.own_ne HI0.out HO285.out (by decide)))
 rintro e w94 ⟨rfl, hi, hb, hk⟩
 refine ⟨_, rfl, ?_⟩
 have n_ := spec_l17Bent.K7_ (KeepBut.blk hk (g' := gb239) (o := .cells #[.slice none 0 0] 65 (0, 0)) (by (with_reducible repeat (first | refine blk_drewN ?_ _ | refine blk_drew ?_ | refine blk_alloc ?_ _)); exact BK239.out) NB239_0.out (by simp)) (Kd.R_mono (Kd.R_keep (IsS118.apart (show IsS118 w0 _ g s0_0 t253 t254 from by repeat (first | (with_reducible first | exact HI0.out | apply IsS118.alloc | apply IsS118.drewN | apply IsS118.drew | apply IsS118.set_1 | apply IsS118.set_2 | refine IsS118.far ?_ NB0_239.out _ | refine IsS118.far ?_ NB0_248.out _) | exact HI0.out)) (by (with_reducible repeat (first | apply Kd.R_alloc | apply Kd.R_drewN | apply Kd.R_drew)); exact HO245.out) (by decide)) hk (fun _ h => h.2)) (fun _ h => h.1)) (KeepBut.blk hk (g' := gb248) (o := .cells #[.slice Ao11 t243.length co11] 65 (0, 0)) (by (with_reducible repeat (first | refine blk_drewN ?_ _ | refine blk_drew ?_ | refine blk_alloc ?_ _)); exact BK248.out) NB248_0.out (by simp)) (Kd.R_mono (Kd.R_keep (IsS118.apart (show IsS118 w0 _ g s0_0 t253 t254 from by repeat (first | (with_reducible first | exact HI0.out | apply IsS118.alloc | apply IsS118.drewN | apply IsS118.drew | apply IsS118.set_1 | apply IsS118.set_2 | refine IsS118.far ?_ NB0_239.out _ | refine IsS118.far ?_ NB0_248.out _) | exact HI0.out)) (by (with_reducible repeat (first | apply Kd.R_alloc | apply Kd.R_drewN | apply Kd.R_drew)); exact HO285.out) (by decide)) hk (fun _ h => h.2)) (fun _ h => h.1)) (KeepBut.trans (by repeat (first | (with_reducible first | exact HK.out | apply KeepBut.set_ | apply keep_drewN | apply keep_drew | apply keep_alloc | refine keep_far ?_ GW239.out _ | refine keep_far ?_ GW248.out _) | exact HK.out)) hk (.inl rfl)) hb hi
 clear BK239 HO245 BK248 HO285 HK HB HI0
 obtain ⟨BK239, HO245, BK248, HO285, HK, HB, HI0⟩ := n_
 (try clear hb)
 (try clear hb2)
 (try clear hk)
 (try clear hi)
 have p89 : 0 ≤ (t249 : Int) := of_decide_eq_true (by first | (with_reducible assumption) | assumption)
 have q89 : (t249 : Int) < ((t243.length : Int) : Int) := of_decide_eq_true (by first | (with_reducible assumption) | assumption)
 obtain ⟨go89, co89, eo89, gb89, gl89, cl89, HG89⟩ := Kd.R_form HO245.out (by omega)
 (first | cases eo89 | (injection eo89 with ea_ en_ ec_; (first | subst ea_ | (injection ea_ with ea_; subst ea_)); subst ec_; clear en_))
 have GB89 := Aside0.mk gb89
 have GG89 := Aside0.mk HG89
 clear gb89 gl89 HG89
 obtain ⟨ce89, hcl89, hM89, hcc89, hfr89⟩ := Kd.R_elem HO245.out z23 (t249 : Int) p89 q89
 obtain rfl := k23_openM hM89
 have hx89_0 : World.cell? _ ⟨go89, (t249 : Int).toNat * 5, none⟩ = some (.int .i64 ((rd_T23 t243 t249).f0)) := hcc89 0 _ rfl
 have hx89_1 : World.cell? _ ⟨go89, (t249 : Int).toNat * 5 + 1, none⟩ = some (.int .i64 ((rd_T23 t243 t249).f1)) := hcc89 1 _ rfl
 have hx89_2 : World.cell? _ ⟨go89, (t249 : Int).toNat * 5 + 2, none⟩ = some (.int .i64 ((rd_T23 t243 t249).f2)) := hcc89 2 _ rfl
 have hx89_3 : World.cell? _ ⟨go89, (t249 : Int).toNat * 5 + 3, none⟩ = some (.int .i64 ((rd_T23 t243 t249).f3)) := hcc89 3 _ rfl
 have hx89_4 : World.cell? _ ⟨go89, (t249 : Int).toNat * 5 + 4, none⟩ = some (.int .i64 ((rd_T23 t243 t249).f4)) := hcc89 4 _ rfl
 have hf89_0 : World.frozen? _ ⟨go89, (t249 : Int).toNat * 5, none⟩ = false := hfr89 0
 have hf89_1 : World.frozen? _ ⟨go89, (t249 : Int).toNat * 5 + 1, none⟩ = false := hfr89 1
 have hf89_2 : World.frozen? _ ⟨go89, (t249 : Int).toNat * 5 + 2, none⟩ = false := hfr89 2
 have hf89_3 : World.frozen? _ ⟨go89, (t249 : Int).toNat * 5 + 3, none⟩ = false := hfr89 3
 have hf89_4 : World.frozen? _ ⟨go89, (t249 : Int).toNat * 5 + 4, none⟩ = false := hfr89 4
 clear hcl89 hcc89 hfr89; (try clear hM89)
 replace p89 := eq_true p89
 replace q89 := eq_true q89
 have HN0_go89 := Aside0.mk (show g ≠ go89 from by have h_ := IsS118.own_ne HI0.out HO245.out (by decide); intro e_; exact h_ (by rw [e_]; rfl))
 obtain ⟨ce95, hcl95, hM95, hcc95, hfr95⟩ := Kd.R_elem HO245.out z23 (t249 : Int) (of_decide_eq_true (by first | (with_reducible assumption) | assumption)) (by have h_ : (t249 : Int) < ((t243.length : Int) : Int) := of_decide_eq_true (by first | (with_reducible assumption) | assumption); first | exact h_ | (have e_ := (Kd.R_reads' HO245.out).1; omega) | simpa using h_)
 obtain rfl := k23_openM hM95
 have HP95 := (Kd.R_seg HO245.out (t249 : Int) (of_decide_eq_true (by first | (with_reducible assumption) | assumption)) (by have h_ : (t249 : Int) < ((t243.length : Int) : Int) := of_decide_eq_true (by first | (with_reducible assumption) | assumption); first | exact h_ | (have e_ := (Kd.R_reads' HO245.out).1; omega) | simpa using h_) (seg := [.int .i64 t286]) (j := 4) hcl95 hcc95 (show 5 ≤ 5 from by decide) (x' := (⟨(rd_T23 t243 t249).f0, (rd_T23 t243 t249).f1, (rd_T23 t243 t249).f2, (rd_T23 t243 t249).f3, t286⟩ : S23)) (k23_mkM _ _ _ (⟨(rd_T23 t243 t249).f0, (rd_T23 t243 t249).f1, (rd_T23 t243 t249).f2, (rd_T23 t243 t249).f3, t286⟩ : S23) ) (fun _ hk => hk)).1
 rw [← Ny289.out] at HP95
 have HQ95 := Aside0.mk HP95
 clear hcl95 hcc95 hfr95 HP95; (try clear hM95)
 refine hK.out _ _ ((blk_cell BK248.out 0).trans rfl) (fun hHeld => ?_)
 clear hK K
 refine norm_ (a' := ?_) ?_ ?_
 rotate_left
 ·show Act.put _ (some 66) _ = _
  simp only [Act.put, List.setIfInBounds_toArray, List.set_cons_zero, List.set_cons_succ, i64_w, i32_w]
  rfl
 refine pure_ (i := 6) (N := some 67) (v := ?_) (a' := ?_) #[true, true, true, true, true, true, true, false, false] rfl rfl (any_of HT_.out (by kernel_rfl)) (fun _ _ _ h => h) (Or.inl ⟨by rfl, ?_⟩) ?_ ?_
 rotate_left
 ·intro w'
  go_simp
  with_reducible rfl
 rotate_left
 ·simp only [Act.put, List.setIfInBounds_toArray, List.set_cons_zero, List.set_cons_succ, i64_w, i32_w]
  rfl
 refine pure_ (i := 7) (N := some 68) (v := ?_) (a' := ?_) #[true, true, true, true, true, true, true, true, false] rfl rfl (any_of HT_.out (by kernel_rfl)) (fun _ _ _ h => h) (Or.inl ⟨by rfl, ?_⟩) ?_ ?_
 rotate_left
 ·intro w'
  go_simp
  with_reducible rfl
 rotate_left
 ·simp only [Act.put, List.setIfInBounds_toArray, List.set_cons_zero, List.set_cons_succ, i64_w, i32_w]
  rfl
 refine last_ (i := 8) (N := none) #[true, true, true, true, true, true, true, true, true] rfl rfl (one_of HT_.out (by kernel_rfl)) (by decide) (fun K hK => ?_)
 refine skip_ (w1 := ?_) (by rfl) rfl ?_ ?_
 rotate_left
 ·go_simp
  rfl
 refine hK.out _ _ ?_
 clear hK K
 refine done_ (done_of HT_.out (by kernel_rfl)) ?_
 have n0_ : Aside0 (Kd.R k23 23 (w94.setCell ⟨go89, (t249 : Int).toNat * 5 + 4, none⟩ (.int .i64 t286)) w.heap.size (fun _ => True) (.slice (some ⟨go89, 0, none⟩) t243.length co11) y289) := ⟨by (with_reducible repeat (first | apply Kd.R_alloc | apply Kd.R_drewN | apply Kd.R_drew)); exact HQ95.out⟩
 have n1_ : Aside0 (Kd.R (Kd.int .i64) 3 (w94.setCell ⟨go89, (t249 : Int).toNat * 5 + 4, none⟩ (.int .i64 t286)) w.heap.size (fun _ => True) (.slice Ao93 y283.length co93) y283) := ⟨by (with_reducible repeat (first | apply Kd.R_alloc | apply Kd.R_drewN | apply Kd.R_drew)); exact Kd.R_mono (Kd.R_far (p := ⟨go89, (t249 : Int).toNat * 5 + 4, none⟩) (Kd.R_types HO285.out GG89.out (by decide)) (fun _ hk => hk.2) (.int .i64 t286)) (fun _ hk => trivial)⟩
 have n2_ : Aside0 ((w94.setCell ⟨go89, (t249 : Int).toNat * 5 + 4, none⟩ (.int .i64 t286)).heap[gb239]? = some (.cells #[.slice none 0 0] 65 (0, 0))) := ⟨by (with_reducible repeat (first | refine blk_drewN ?_ _ | refine blk_drew ?_ | refine blk_alloc ?_ _)); refine blk_far ?_ (by have h_ := Kd.R_ne HO245.out BK239.out (by decide); intro e_; exact h_ (by rw [e_]; rfl)) _; (with_reducible repeat (first | refine blk_drewN ?_ _ | refine blk_drew ?_ | refine blk_alloc ?_ _)); exact BK239.out⟩
 have n3_ : Aside0 ((w94.setCell ⟨go89, (t249 : Int).toNat * 5 + 4, none⟩ (.int .i64 t286)).heap[gb248]? = some (.cells #[.slice (some ⟨go89, 0, none⟩) t243.length co11] 65 (0, 0))) := ⟨by (with_reducible repeat (first | refine blk_drewN ?_ _ | refine blk_drew ?_ | refine blk_alloc ?_ _)); refine blk_far ?_ (by have h_ := Kd.R_ne HO245.out BK248.out (by decide); intro e_; exact h_ (by rw [e_]; rfl)) _; (with_reducible repeat (first | refine blk_drewN ?_ _ | refine blk_drew ?_ | refine blk_alloc ?_ _)); exact BK248.out⟩
 have n4_ : Aside0 (IsS118 w0 (w94.setCell ⟨go89, (t249 : Int).toNat * 5 + 4, none⟩ (.int .i64 t286)) g s0_0 t287 t288) := ⟨by repeat (first | (with_reducible first | exact HI0.out | apply IsS118.alloc | apply IsS118.drewN | apply IsS118.drew | apply IsS118.set_1 | apply IsS118.set_2 | refine IsS118.far ?_ HN0_go89.out _ | refine IsS118.far ?_ NB0_239.out _ | refine IsS118.far ?_ NB0_248.out _) | exact HI0.out)⟩
 have n5_ : Aside0 (KeepBut w (w94.setCell ⟨go89, (t249 : Int).toNat * 5 + 4, none⟩ (.int .i64 t286)) g none) := ⟨by repeat (first | (with_reducible first | exact HK.out | apply KeepBut.set_ | apply keep_drewN | apply keep_drew | apply keep_alloc | refine keep_far ?_ GB89.out _ | refine keep_far ?_ GW239.out _ | refine keep_far ?_ GW248.out _) | exact HK.out)⟩
 have n6_ : Aside0 (Below w0.heap.size w0 (w94.setCell ⟨go89, (t249 : Int).toNat * 5 + 4, none⟩ (.int .i64 t286))) := ⟨by repeat (first | (with_reducible first | exact HB.out | apply below_alloc | apply pw_below_drewN | apply below_drew1 | refine below_set ?_ (Nat.le_trans HL.out GB89.out) | refine below_set ?_ (IsS118.ge HI0.out) | refine below_set ?_ GE239.out | refine below_set ?_ GE248.out) | exact HB.out)⟩
 (try clear HO245)
 (try clear HO285)
 (try clear BK239)
 (try clear BK248)
 (try clear HI0)
 (try clear HK)
 (try clear HB)
 generalize (w94.setCell ⟨go89, (t249 : Int).toNat * 5 + 4, none⟩ (.int .i64 t286)) = w96 at n0_ n1_ n2_ n3_ n4_ n5_ n6_ ⊢
 have HO245 := n0_
 have HO285 := n1_
 have BK239 := n2_
 have BK248 := n3_
 have HI0 := n4_
 have HK := n5_
 have HB := n6_
 clear n0_ n1_ n2_ n3_ n4_ n5_ n6_
 have hnb97 := NB248_239.out
 have hnc97 := NB239_248.out
 have hnb98 := NB248_0.out
 have hnc98 := NB0_248.out
 have hcz99_0 : w96.cell? ⟨gb248, 0, none⟩ = some (.slice (some ⟨go89, 0, none⟩) t243.length co11) := (blk_cell BK248.out 0).trans rfl
 have hfz99_0 := blk_frozen BK248.out 0
 have hnb100 := NB239_0.out
 have hnc100 := NB0_239.out
 have hcz101_0 : w96.cell? ⟨gb239, 0, none⟩ = some (.slice none 0 0) := (blk_cell BK239.out 0).trans rfl
 have hfz101_0 := blk_frozen BK239.out 0
 try go_wp2
 refine bodyPost_ret (results_cell_row rfl _ _ gb239 65 #[.slice (some ⟨go89, 0, none⟩) t243.length co11] (0, 0) _ rfl (by (with_reducible repeat (first | refine blk_drewN ?_ _ | refine blk_drew ?_ | refine blk_alloc ?_ _)); refine blk_put (cs := #[.slice none 0 0]) ?_ 0 _ rfl; (with_reducible repeat (first | refine blk_drewN ?_ _ | refine blk_drew ?_ | refine blk_alloc ?_ _)); exact BK239.out) Tryd.underlying65 rfl (by kernel_rfl)) rfl ?_
 exact ⟨_, by first | rfl | (simp [errW_none, errW_some] <;> rfl) | (simp [*, errW_none, errW_some] <;> rfl), by (with_reducible repeat (first | apply Kd.R_alloc | apply Kd.R_drewN | apply Kd.R_drew)); exact Kd.R_mono (Kd.R_far (p := ⟨gb239, 0, none⟩) (Kd.R_types HO245.out BK239.out (by decide)) (fun _ hk => hk.2) (.slice (some ⟨go89, 0, none⟩) t243.length co11)) (fun _ hk => trivial), by repeat (first | (with_reducible first | exact HI0.out | apply IsS118.alloc | apply IsS118.drewN | apply IsS118.drew | apply IsS118.set_1 | apply IsS118.set_2 | refine IsS118.far ?_ NB0_239.out _ | refine IsS118.far ?_ NB0_248.out _) | exact HI0.out), by repeat (first | (with_reducible first | exact HB.out | apply below_alloc | apply pw_below_drewN | apply below_drew1 | refine below_set ?_ (IsS118.ge HI0.out) | refine below_set ?_ GE239.out | refine below_set ?_ GE248.out) | exact HB.out), by repeat (first | (with_reducible first | exact HK.out | apply KeepBut.set_ | apply keep_drewN | apply keep_drew | apply keep_alloc | refine keep_far ?_ GW239.out _ | refine keep_far ?_ GW248.out _) | exact HK.out)⟩
end Go.Proofs.YtcgmdpnhlkbpbaaDoor.XFnNodeText
