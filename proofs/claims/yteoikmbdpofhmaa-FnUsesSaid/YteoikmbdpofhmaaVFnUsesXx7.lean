import Derived.Test.YteoikmbdpofhmaaVFnUsesXx0
import Derived.Test.YteoikmbdpofhmaaVFnUsesXx2
import Derived.Test.YteoikmbdpofhmaaVFnUsesXx5
import Derived.Test.YteoikmbdpofhmaaVFnUsesXx6
namespace Go.Proofs.Yteoikmbdpofhmaa.XFnUses
open Go.RowKit Go.Proofs.YteoikmbdpofhmaaW.PrintWords Go.Proofs.YteoikmbdpofhmaaW.PrintLast Go.Proofs.YteoikmbdpofhmaaW.PrintMore
attribute [local go_sem] max2_int min2_int max_two min_two max_three min_three max_four min_four
set_option linter.unusedVariables false
set_option linter.unusedSimpArgs false
def spec_l17Bent.b0_ : Array Bool := #[false, false, false, false, false, false, false, false, false]
def spec_l17Bent.b1_ : Array Bool := #[true, false, false, false, false, false, false, false, false]
def spec_l17Bent.b2_ : Array Bool := #[true, false, true, false, false, false, false, false, false]
def spec_l17Bent.b3_ : Array Bool := #[true, false, true, true, false, false, false, false, false]
def spec_l17Bent.b4_ : Array Bool := #[true, true, true, true, false, false, false, false, false]
def spec_l17Bent.b5_ : Array Bool := #[true, true, true, true, true, false, false, false, false]
def spec_l17Bent.b6_ : Array Bool := #[true, true, true, true, true, true, false, false, false]
def spec_l17Bent.b7_ : Array Bool := #[true, true, true, true, true, true, true, false, false]
def spec_l17Bent.b8_ : Array Bool := #[true, true, true, true, true, true, true, true, false]
def spec_l17Bent.b9_ : Array Bool := #[true, true, true, true, true, true, true, true, true]
def spec_l17Bent.b10_ : Array Bool := #[false, false, false, false, false, false, false, false, false, false]
def spec_l17Bent.b11_ : Array Bool := #[true, false, false, false, false, false, false, false, false, false]
def spec_l17Bent.b12_ : Array Bool := #[true, false, true, false, false, false, false, false, false, false]
def spec_l17Bent.b13_ : Array Bool := #[true, false, true, true, false, false, false, false, false, false]
def spec_l17Bent.b14_ : Array Bool := #[true, false, true, true, true, false, false, false, false, false]
def spec_l17Bent.b15_ : Array Bool := #[true, true, true, true, true, false, false, false, false, false]
def spec_l17Bent.b16_ : Array Bool := #[true, true, true, true, true, true, false, false, false, false]
def spec_l17Bent.b17_ : Array Bool := #[true, true, true, true, true, true, true, false, false, false]
def spec_l17Bent.b18_ : Array Bool := #[true, true, true, true, true, true, true, true, false, false]
def spec_l17Bent.b19_ : Array Bool := #[true, true, true, true, true, true, true, true, true, false]
def spec_l17Bent.b20_ : Array Bool := #[true, true, true, true, true, true, true, true, true, true]
theorem spec_l17Bent.z0 {p : Prop} (h : p := by have h_ : (t291 : Int) < ((t285.length : Int) : Int) := of_decide_eq_true (g6); first | exact h_ | (have e_ := (Kd.R_reads' HO287.out).1; omega) | simpa using h_) : p := h
theorem spec_l17Bent.z1 {p : Prop} (h : p := by have h_ := Kd.R_ne HO287.out BK281.out (by decide); intro e_; exact h_ (by rw [e_]; rfl)) : p := h
theorem spec_l17Bent.z2 {p : Prop} (h : p := by have h_ := Kd.R_ne HO287.out BK290.out (by decide); intro e_; exact h_ (by rw [e_]; rfl)) : p := h
theorem spec_l17Bent.z3 {p : Prop} (h : p := by (with_reducible repeat (first | refine blk_drewN ?_ _ | refine blk_drew ?_ | refine blk_alloc ?_ _)); refine blk_put (cs := #[.slice none 0 0]) ?_ 0 _ rfl; (with_reducible repeat (first | refine blk_drewN ?_ _ | refine blk_drew ?_ | refine blk_alloc ?_ _)); exact BK281.out) : p := h
theorem spec_l17Bent.z4 {p : Prop} (h : p := by (with_reducible repeat (first | refine blk_drewN ?_ _ | refine blk_drew ?_ | refine blk_alloc ?_ _)); refine blk_put (cs := #[.slice none 0 0]) ?_ 0 _ rfl; (with_reducible repeat (first | refine blk_drewN ?_ _ | refine blk_drew ?_ | refine blk_alloc ?_ _)); refine blk_far ?_ NB281_290.out _; (with_reducible repeat (first | refine blk_drewN ?_ _ | refine blk_drew ?_ | refine blk_alloc ?_ _)); exact BK281.out) : p := h
theorem spec_l17Bent.K4_ {p0 p1 p2 p3 : Prop} (h0 : p0) (h1 : p1) (h2 : p2) (h3 : p3) : Aside0 p0 ∧ Aside0 p1 ∧ Aside0 p2 ∧ Aside0 p3 := ⟨⟨h0⟩, ⟨h1⟩, ⟨h2⟩, ⟨h3⟩⟩
theorem spec_l17Bent.K5_ {p0 p1 p2 p3 p4 : Prop} (h0 : p0) (h1 : p1) (h2 : p2) (h3 : p3) (h4 : p4) : Aside0 p0 ∧ Aside0 p1 ∧ Aside0 p2 ∧ Aside0 p3 ∧ Aside0 p4 := ⟨⟨h0⟩, ⟨h1⟩, ⟨h2⟩, ⟨h3⟩, ⟨h4⟩⟩
theorem spec_l17Bent.K6_ {p0 p1 p2 p3 p4 p5 : Prop} (h0 : p0) (h1 : p1) (h2 : p2) (h3 : p3) (h4 : p4) (h5 : p5) : Aside0 p0 ∧ Aside0 p1 ∧ Aside0 p2 ∧ Aside0 p3 ∧ Aside0 p4 ∧ Aside0 p5 := ⟨⟨h0⟩, ⟨h1⟩, ⟨h2⟩, ⟨h3⟩, ⟨h4⟩, ⟨h5⟩⟩
theorem spec_l17Bent.K7_ {p0 p1 p2 p3 p4 p5 p6 : Prop} (h0 : p0) (h1 : p1) (h2 : p2) (h3 : p3) (h4 : p4) (h5 : p5) (h6 : p6) : Aside0 p0 ∧ Aside0 p1 ∧ Aside0 p2 ∧ Aside0 p3 ∧ Aside0 p4 ∧ Aside0 p5 ∧ Aside0 p6 := ⟨⟨h0⟩, ⟨h1⟩, ⟨h2⟩, ⟨h3⟩, ⟨h4⟩, ⟨h5⟩, ⟨h6⟩⟩
theorem spec_l17Bent.K8_ {p0 p1 p2 p3 p4 p5 p6 p7 : Prop} (h0 : p0) (h1 : p1) (h2 : p2) (h3 : p3) (h4 : p4) (h5 : p5) (h6 : p6) (h7 : p7) : Aside0 p0 ∧ Aside0 p1 ∧ Aside0 p2 ∧ Aside0 p3 ∧ Aside0 p4 ∧ Aside0 p5 ∧ Aside0 p6 ∧ Aside0 p7 := ⟨⟨h0⟩, ⟨h1⟩, ⟨h2⟩, ⟨h3⟩, ⟨h4⟩, ⟨h5⟩, ⟨h6⟩, ⟨h7⟩⟩
theorem spec_l17Bent.K12_ {p0 p1 p2 p3 p4 p5 p6 p7 p8 p9 p10 p11 : Prop} (h0 : p0) (h1 : p1) (h2 : p2) (h3 : p3) (h4 : p4) (h5 : p5) (h6 : p6) (h7 : p7) (h8 : p8) (h9 : p9) (h10 : p10) (h11 : p11) : Aside0 p0 ∧ Aside0 p1 ∧ Aside0 p2 ∧ Aside0 p3 ∧ Aside0 p4 ∧ Aside0 p5 ∧ Aside0 p6 ∧ Aside0 p7 ∧ Aside0 p8 ∧ Aside0 p9 ∧ Aside0 p10 ∧ Aside0 p11 := ⟨⟨h0⟩, ⟨h1⟩, ⟨h2⟩, ⟨h3⟩, ⟨h4⟩, ⟨h5⟩, ⟨h6⟩, ⟨h7⟩, ⟨h8⟩, ⟨h9⟩, ⟨h10⟩, ⟨h11⟩⟩
def spec_l17Bent.f (k : Nat) (s0_0 : List Int) (s0_1 : Int) (s0_2 : Int) : Option ((List (S93)) × Int × Int) := (spec_l1Below.f s0_0 s0_1 s0_2 3).bind fun bt282 => ((spec_l17Right.f k s0_0 bt282.2.1 bt282.2.2 (wrap64 (1 + bt282.1))).bind fun bt285 => ((spec_l1Below.f s0_0 bt285.2.1 bt285.2.2 (bt285.1.length : Int)).bind fun bt291 => ((spec_l1Below.f s0_0 bt291.2.1 bt291.2.2 14).bind fun bt294 => (if bt294.1 = 0 then ((spec_l1PickInt.f s0_0 bt294.2.1 bt294.2.2 (([(-1), 0, 1, 4, (-2), 9223372036854775807] : List Int))).bind fun bt300 => (if 0 ≤ bt291.1 then (if bt291.1 < (bt285.1.length : Int) then (some ((bt285.1.set (bt291.1 : Int).toNat (⟨bt300.1, (rd_T93 bt285.1 bt291.1).f1, (rd_T93 bt285.1 bt291.1).f2, (rd_T93 bt285.1 bt291.1).f3, (rd_T93 bt285.1 bt291.1).f4⟩ : S93)), bt300.2.1, bt300.2.2)) else (none)) else (none))) else (if bt294.1 = 1 then ((spec_l1PickInt.f s0_0 bt294.2.1 bt294.2.2 (([0, 1, 2147483648, (-2147483648), 500] : List Int))).bind fun bt307 => (if 0 ≤ bt291.1 then (if bt291.1 < (bt285.1.length : Int) then (some ((bt285.1.set (bt291.1 : Int).toNat (⟨(rd_T93 bt285.1 bt291.1).f0, bt307.1, (rd_T93 bt285.1 bt291.1).f2, (rd_T93 bt285.1 bt291.1).f3, (rd_T93 bt285.1 bt291.1).f4⟩ : S93)), bt307.2.1, bt307.2.2)) else (none)) else (none))) else (if bt294.1 = 2 then ((spec_l1PickInt.f s0_0 bt294.2.1 bt294.2.2 (([0, 1, 2, (-1), 40, bt291.1] : List Int))).bind fun bt314 => (if 0 ≤ bt291.1 then (if bt291.1 < (bt285.1.length : Int) then (some ((bt285.1.set (bt291.1 : Int).toNat (⟨(rd_T93 bt285.1 bt291.1).f0, (rd_T93 bt285.1 bt291.1).f1, bt314.1, (rd_T93 bt285.1 bt291.1).f3, (rd_T93 bt285.1 bt291.1).f4⟩ : S93)), bt314.2.1, bt314.2.2)) else (none)) else (none))) else (if bt294.1 = 3 then ((spec_l1PickInt.f s0_0 bt294.2.1 bt294.2.2 (([0, 1, 2, (-1), 40, bt291.1] : List Int))).bind fun bt321 => (if 0 ≤ bt291.1 then (if bt291.1 < (bt285.1.length : Int) then (some ((bt285.1.set (bt291.1 : Int).toNat (⟨(rd_T93 bt285.1 bt291.1).f0, (rd_T93 bt285.1 bt291.1).f1, (rd_T93 bt285.1 bt291.1).f2, bt321.1, (rd_T93 bt285.1 bt291.1).f4⟩ : S93)), bt321.2.1, bt321.2.2)) else (none)) else (none))) else (if bt294.1 = 4 then ((spec_l1PickInt.f s0_0 bt294.2.1 bt294.2.2 (([0, 1, 1099511627776, 1099511627777, (-1099511627777)] : List Int))).bind fun bt328 => (if 0 ≤ bt291.1 then (if bt291.1 < (bt285.1.length : Int) then (some ((bt285.1.set (bt291.1 : Int).toNat (⟨(rd_T93 bt285.1 bt291.1).f0, (rd_T93 bt285.1 bt291.1).f1, (rd_T93 bt285.1 bt291.1).f2, (rd_T93 bt285.1 bt291.1).f3, bt328.1⟩ : S93)), bt328.2.1, bt328.2.2)) else (none)) else (none))) else (if bt294.1 = 5 then (if bt285.1.length < 3518437208883 then (some ((bt285.1 ++ [(⟨(-1), 0, 0, 0, 0⟩ : S93)]), bt294.2.1, bt294.2.2)) else (none)) else (if bt294.1 = 6 then (if 0 ≤ bt291.1 then (if bt291.1 ≤ (bt285.1.length : Int) then (some ((bt285.1.take (bt291.1 : Int).toNat), bt294.2.1, bt294.2.2)) else (none)) else (none)) else (some (bt285.1, bt294.2.1, bt294.2.2))))))))))))
def spec_l17Bent.T5 : Bool × List (List Nat × List Nat) := (true, [([], []), ([0], [0]), ([], []), ([], []), ([], []), ([3, 4], [3, 4]), ([1, 2, 0, 1, 2, 3, 4, 5], [1, 2]), ([6, 0, 1, 2, 3, 4, 5], [6]), ([7, 5, 5, 0, 1, 2, 3, 4, 5], [5, 7])])
def spec_l17Bent.B5 : List Nat := [0, 1, 0, 0, 0, 24, 63, 127, 255]
theorem spec_l17Bent.tab5 : rtab .any (opsOf Try.f121 5) = spec_l17Bent.T5 := by kernel_rfl
theorem spec_l17Bent.bits5 : waitsOk spec_l17Bent.T5.2 spec_l17Bent.B5 = true := by kernel_rfl
def spec_l17Bent.T7 : Bool × List (List Nat × List Nat) := (true, [([], []), ([0], [0]), ([], []), ([], []), ([], []), ([3, 4], [3, 4]), ([1, 2, 0, 1, 2, 3, 4, 5], [1, 2]), ([6, 0, 1, 2, 3, 4, 5], [6]), ([7, 5, 5, 0, 1, 2, 3, 4, 5], [5, 7])])
def spec_l17Bent.B7 : List Nat := [0, 1, 0, 0, 0, 24, 63, 127, 255]
theorem spec_l17Bent.tab7 : rtab .any (opsOf Try.f121 7) = spec_l17Bent.T7 := by kernel_rfl
theorem spec_l17Bent.bits7 : waitsOk spec_l17Bent.T7.2 spec_l17Bent.B7 = true := by kernel_rfl
def spec_l17Bent.T9 : Bool × List (List Nat × List Nat) := (true, [([], []), ([0], [0]), ([], []), ([], []), ([], []), ([4], [4]), ([3, 5], [3, 5]), ([1, 2, 0, 1, 2, 3, 4, 5, 6], [1, 2]), ([7, 0, 1, 2, 3, 4, 5, 6], [7]), ([8, 6, 6, 0, 1, 2, 3, 4, 5, 6], [6, 8])])
def spec_l17Bent.B9 : List Nat := [0, 1, 0, 0, 0, 16, 56, 127, 255, 511]
theorem spec_l17Bent.tab9 : rtab .any (opsOf Try.f121 9) = spec_l17Bent.T9 := by kernel_rfl
theorem spec_l17Bent.bits9 : waitsOk spec_l17Bent.T9.2 spec_l17Bent.B9 = true := by kernel_rfl
def spec_l17Bent.T11 : Bool × List (List Nat × List Nat) := (true, [([], []), ([0], [0]), ([], []), ([], []), ([], []), ([4], [4]), ([3, 5], [3, 5]), ([1, 2, 0, 1, 2, 3, 4, 5, 6], [1, 2]), ([7, 0, 1, 2, 3, 4, 5, 6], [7]), ([8, 6, 6, 0, 1, 2, 3, 4, 5, 6], [6, 8])])
def spec_l17Bent.B11 : List Nat := [0, 1, 0, 0, 0, 16, 56, 127, 255, 511]
theorem spec_l17Bent.tab11 : rtab .any (opsOf Try.f121 11) = spec_l17Bent.T11 := by kernel_rfl
theorem spec_l17Bent.bits11 : waitsOk spec_l17Bent.T11.2 spec_l17Bent.B11 = true := by kernel_rfl
def spec_l17Bent.T13 : Bool × List (List Nat × List Nat) := (true, [([], []), ([0], [0]), ([], []), ([], []), ([], []), ([3, 4], [3, 4]), ([1, 2, 0, 1, 2, 3, 4, 5], [1, 2]), ([6, 0, 1, 2, 3, 4, 5], [6]), ([7, 5, 5, 0, 1, 2, 3, 4, 5], [5, 7])])
def spec_l17Bent.B13 : List Nat := [0, 1, 0, 0, 0, 24, 63, 127, 255]
theorem spec_l17Bent.tab13 : rtab .any (opsOf Try.f121 13) = spec_l17Bent.T13 := by kernel_rfl
theorem spec_l17Bent.bits13 : waitsOk spec_l17Bent.T13.2 spec_l17Bent.B13 = true := by kernel_rfl
set_option maxHeartbeats 8000000 in
set_option maxRecDepth 100000 in
theorem spec_l17Bent.calls (k : Nat) (g : Nat) (s0_0 : List Int) (s0_1 : Int) (s0_2 : Int) (r1 : List (S93)) (r2 : Int) (r3 : Int) (w0 w : World) (hI : IsS105 w0 w g s0_0 s0_1 s0_2) (hB : Below w0.heap.size w0 w) (h : spec_l17Bent.f k s0_0 s0_1 s0_2 = some (r1, r2, r3)) :
    Calls Try.prog 121 #[.pointer (some ⟨g, 0, none⟩)] w fun e w' => ∃ v0_ : Value, e = .returned (.agg #[v0_]) ∧ Kd.R k93 93 w' w.heap.size (fun _ => True) v0_ r1 ∧ IsS105 w0 w' g s0_0 r2 r3 ∧ Below w0.heap.size w0 w' ∧ KeepBut w w' g none := by
 have hu68 := Try.underlying68
 have hu93 := Try.underlying93
 have HI0 := Aside0.mk hI
 have HK := Aside0.mk (KeepBut.refl w g none)
 have HL := Aside0.mk hB.size
 clear hI
 have HW0 := Aside0.mk hB.size
 have HB := Aside0.mk hB
 clear hB
 have H : ((spec_l1Below.f s0_0 s0_1 s0_2 3).bind fun bt282 => ((spec_l17Right.f k s0_0 bt282.2.1 bt282.2.2 (wrap64 (1 + bt282.1))).bind fun bt285 => ((spec_l1Below.f s0_0 bt285.2.1 bt285.2.2 (bt285.1.length : Int)).bind fun bt291 => ((spec_l1Below.f s0_0 bt291.2.1 bt291.2.2 14).bind fun bt294 => (if bt294.1 = 0 then ((spec_l1PickInt.f s0_0 bt294.2.1 bt294.2.2 (([(-1), 0, 1, 4, (-2), 9223372036854775807] : List Int))).bind fun bt300 => (if 0 ≤ bt291.1 then (if bt291.1 < (bt285.1.length : Int) then (some ((bt285.1.set (bt291.1 : Int).toNat (⟨bt300.1, (rd_T93 bt285.1 bt291.1).f1, (rd_T93 bt285.1 bt291.1).f2, (rd_T93 bt285.1 bt291.1).f3, (rd_T93 bt285.1 bt291.1).f4⟩ : S93)), bt300.2.1, bt300.2.2)) else (none)) else (none))) else (if bt294.1 = 1 then ((spec_l1PickInt.f s0_0 bt294.2.1 bt294.2.2 (([0, 1, 2147483648, (-2147483648), 500] : List Int))).bind fun bt307 => (if 0 ≤ bt291.1 then (if bt291.1 < (bt285.1.length : Int) then (some ((bt285.1.set (bt291.1 : Int).toNat (⟨(rd_T93 bt285.1 bt291.1).f0, bt307.1, (rd_T93 bt285.1 bt291.1).f2, (rd_T93 bt285.1 bt291.1).f3, (rd_T93 bt285.1 bt291.1).f4⟩ : S93)), bt307.2.1, bt307.2.2)) else (none)) else (none))) else (if bt294.1 = 2 then ((spec_l1PickInt.f s0_0 bt294.2.1 bt294.2.2 (([0, 1, 2, (-1), 40, bt291.1] : List Int))).bind fun bt314 => (if 0 ≤ bt291.1 then (if bt291.1 < (bt285.1.length : Int) then (some ((bt285.1.set (bt291.1 : Int).toNat (⟨(rd_T93 bt285.1 bt291.1).f0, (rd_T93 bt285.1 bt291.1).f1, bt314.1, (rd_T93 bt285.1 bt291.1).f3, (rd_T93 bt285.1 bt291.1).f4⟩ : S93)), bt314.2.1, bt314.2.2)) else (none)) else (none))) else (if bt294.1 = 3 then ((spec_l1PickInt.f s0_0 bt294.2.1 bt294.2.2 (([0, 1, 2, (-1), 40, bt291.1] : List Int))).bind fun bt321 => (if 0 ≤ bt291.1 then (if bt291.1 < (bt285.1.length : Int) then (some ((bt285.1.set (bt291.1 : Int).toNat (⟨(rd_T93 bt285.1 bt291.1).f0, (rd_T93 bt285.1 bt291.1).f1, (rd_T93 bt285.1 bt291.1).f2, bt321.1, (rd_T93 bt285.1 bt291.1).f4⟩ : S93)), bt321.2.1, bt321.2.2)) else (none)) else (none))) else (if bt294.1 = 4 then ((spec_l1PickInt.f s0_0 bt294.2.1 bt294.2.2 (([0, 1, 1099511627776, 1099511627777, (-1099511627777)] : List Int))).bind fun bt328 => (if 0 ≤ bt291.1 then (if bt291.1 < (bt285.1.length : Int) then (some ((bt285.1.set (bt291.1 : Int).toNat (⟨(rd_T93 bt285.1 bt291.1).f0, (rd_T93 bt285.1 bt291.1).f1, (rd_T93 bt285.1 bt291.1).f2, (rd_T93 bt285.1 bt291.1).f3, bt328.1⟩ : S93)), bt328.2.1, bt328.2.2)) else (none)) else (none))) else (if bt294.1 = 5 then (if bt285.1.length < 3518437208883 then (some ((bt285.1 ++ [(⟨(-1), 0, 0, 0, 0⟩ : S93)]), bt294.2.1, bt294.2.2)) else (none)) else (if bt294.1 = 6 then (if 0 ≤ bt291.1 then (if bt291.1 ≤ (bt285.1.length : Int) then (some ((bt285.1.take (bt291.1 : Int).toNat), bt294.2.1, bt294.2.2)) else (none)) else (none)) else (some (bt285.1, bt294.2.1, bt294.2.2))))))))))))) = some (r1, r2, r3) := h
 clear h
 replace H := Option.bind_eq_some_iff.mp H
 obtain ⟨⟨t282, t283, t284⟩, A20, H⟩ := H
 replace H : ((spec_l17Right.f k s0_0 t283 t284 (wrap64 (1 + t282))).bind fun bt285 => ((spec_l1Below.f s0_0 bt285.2.1 bt285.2.2 (bt285.1.length : Int)).bind fun bt291 => ((spec_l1Below.f s0_0 bt291.2.1 bt291.2.2 14).bind fun bt294 => (if bt294.1 = 0 then ((spec_l1PickInt.f s0_0 bt294.2.1 bt294.2.2 (([(-1), 0, 1, 4, (-2), 9223372036854775807] : List Int))).bind fun bt300 => (if 0 ≤ bt291.1 then (if bt291.1 < (bt285.1.length : Int) then (some ((bt285.1.set (bt291.1 : Int).toNat (⟨bt300.1, (rd_T93 bt285.1 bt291.1).f1, (rd_T93 bt285.1 bt291.1).f2, (rd_T93 bt285.1 bt291.1).f3, (rd_T93 bt285.1 bt291.1).f4⟩ : S93)), bt300.2.1, bt300.2.2)) else (none)) else (none))) else (if bt294.1 = 1 then ((spec_l1PickInt.f s0_0 bt294.2.1 bt294.2.2 (([0, 1, 2147483648, (-2147483648), 500] : List Int))).bind fun bt307 => (if 0 ≤ bt291.1 then (if bt291.1 < (bt285.1.length : Int) then (some ((bt285.1.set (bt291.1 : Int).toNat (⟨(rd_T93 bt285.1 bt291.1).f0, bt307.1, (rd_T93 bt285.1 bt291.1).f2, (rd_T93 bt285.1 bt291.1).f3, (rd_T93 bt285.1 bt291.1).f4⟩ : S93)), bt307.2.1, bt307.2.2)) else (none)) else (none))) else (if bt294.1 = 2 then ((spec_l1PickInt.f s0_0 bt294.2.1 bt294.2.2 (([0, 1, 2, (-1), 40, bt291.1] : List Int))).bind fun bt314 => (if 0 ≤ bt291.1 then (if bt291.1 < (bt285.1.length : Int) then (some ((bt285.1.set (bt291.1 : Int).toNat (⟨(rd_T93 bt285.1 bt291.1).f0, (rd_T93 bt285.1 bt291.1).f1, bt314.1, (rd_T93 bt285.1 bt291.1).f3, (rd_T93 bt285.1 bt291.1).f4⟩ : S93)), bt314.2.1, bt314.2.2)) else (none)) else (none))) else (if bt294.1 = 3 then ((spec_l1PickInt.f s0_0 bt294.2.1 bt294.2.2 (([0, 1, 2, (-1), 40, bt291.1] : List Int))).bind fun bt321 => (if 0 ≤ bt291.1 then (if bt291.1 < (bt285.1.length : Int) then (some ((bt285.1.set (bt291.1 : Int).toNat (⟨(rd_T93 bt285.1 bt291.1).f0, (rd_T93 bt285.1 bt291.1).f1, (rd_T93 bt285.1 bt291.1).f2, bt321.1, (rd_T93 bt285.1 bt291.1).f4⟩ : S93)), bt321.2.1, bt321.2.2)) else (none)) else (none))) else (if bt294.1 = 4 then ((spec_l1PickInt.f s0_0 bt294.2.1 bt294.2.2 (([0, 1, 1099511627776, 1099511627777, (-1099511627777)] : List Int))).bind fun bt328 => (if 0 ≤ bt291.1 then (if bt291.1 < (bt285.1.length : Int) then (some ((bt285.1.set (bt291.1 : Int).toNat (⟨(rd_T93 bt285.1 bt291.1).f0, (rd_T93 bt285.1 bt291.1).f1, (rd_T93 bt285.1 bt291.1).f2, (rd_T93 bt285.1 bt291.1).f3, bt328.1⟩ : S93)), bt328.2.1, bt328.2.2)) else (none)) else (none))) else (if bt294.1 = 5 then (if bt285.1.length < 3518437208883 then (some ((bt285.1 ++ [(⟨(-1), 0, 0, 0, 0⟩ : S93)]), bt294.2.1, bt294.2.2)) else (none)) else (if bt294.1 = 6 then (if 0 ≤ bt291.1 then (if bt291.1 ≤ (bt285.1.length : Int) then (some ((bt285.1.take (bt291.1 : Int).toNat), bt294.2.1, bt294.2.2)) else (none)) else (none)) else (some (bt285.1, bt294.2.1, bt294.2.2)))))))))))) = some (r1, r2, r3) := H
 have A2 := Aside0.mk A20
 clear A20
 replace H := Option.bind_eq_some_iff.mp H
 obtain ⟨⟨t285, t288, t289⟩, A30, H⟩ := H
 replace H : ((spec_l1Below.f s0_0 t288 t289 (t285.length : Int)).bind fun bt291 => ((spec_l1Below.f s0_0 bt291.2.1 bt291.2.2 14).bind fun bt294 => (if bt294.1 = 0 then ((spec_l1PickInt.f s0_0 bt294.2.1 bt294.2.2 (([(-1), 0, 1, 4, (-2), 9223372036854775807] : List Int))).bind fun bt300 => (if 0 ≤ bt291.1 then (if bt291.1 < (t285.length : Int) then (some ((t285.set (bt291.1 : Int).toNat (⟨bt300.1, (rd_T93 t285 bt291.1).f1, (rd_T93 t285 bt291.1).f2, (rd_T93 t285 bt291.1).f3, (rd_T93 t285 bt291.1).f4⟩ : S93)), bt300.2.1, bt300.2.2)) else (none)) else (none))) else (if bt294.1 = 1 then ((spec_l1PickInt.f s0_0 bt294.2.1 bt294.2.2 (([0, 1, 2147483648, (-2147483648), 500] : List Int))).bind fun bt307 => (if 0 ≤ bt291.1 then (if bt291.1 < (t285.length : Int) then (some ((t285.set (bt291.1 : Int).toNat (⟨(rd_T93 t285 bt291.1).f0, bt307.1, (rd_T93 t285 bt291.1).f2, (rd_T93 t285 bt291.1).f3, (rd_T93 t285 bt291.1).f4⟩ : S93)), bt307.2.1, bt307.2.2)) else (none)) else (none))) else (if bt294.1 = 2 then ((spec_l1PickInt.f s0_0 bt294.2.1 bt294.2.2 (([0, 1, 2, (-1), 40, bt291.1] : List Int))).bind fun bt314 => (if 0 ≤ bt291.1 then (if bt291.1 < (t285.length : Int) then (some ((t285.set (bt291.1 : Int).toNat (⟨(rd_T93 t285 bt291.1).f0, (rd_T93 t285 bt291.1).f1, bt314.1, (rd_T93 t285 bt291.1).f3, (rd_T93 t285 bt291.1).f4⟩ : S93)), bt314.2.1, bt314.2.2)) else (none)) else (none))) else (if bt294.1 = 3 then ((spec_l1PickInt.f s0_0 bt294.2.1 bt294.2.2 (([0, 1, 2, (-1), 40, bt291.1] : List Int))).bind fun bt321 => (if 0 ≤ bt291.1 then (if bt291.1 < (t285.length : Int) then (some ((t285.set (bt291.1 : Int).toNat (⟨(rd_T93 t285 bt291.1).f0, (rd_T93 t285 bt291.1).f1, (rd_T93 t285 bt291.1).f2, bt321.1, (rd_T93 t285 bt291.1).f4⟩ : S93)), bt321.2.1, bt321.2.2)) else (none)) else (none))) else (if bt294.1 = 4 then ((spec_l1PickInt.f s0_0 bt294.2.1 bt294.2.2 (([0, 1, 1099511627776, 1099511627777, (-1099511627777)] : List Int))).bind fun bt328 => (if 0 ≤ bt291.1 then (if bt291.1 < (t285.length : Int) then (some ((t285.set (bt291.1 : Int).toNat (⟨(rd_T93 t285 bt291.1).f0, (rd_T93 t285 bt291.1).f1, (rd_T93 t285 bt291.1).f2, (rd_T93 t285 bt291.1).f3, bt328.1⟩ : S93)), bt328.2.1, bt328.2.2)) else (none)) else (none))) else (if bt294.1 = 5 then (if t285.length < 3518437208883 then (some ((t285 ++ [(⟨(-1), 0, 0, 0, 0⟩ : S93)]), bt294.2.1, bt294.2.2)) else (none)) else (if bt294.1 = 6 then (if 0 ≤ bt291.1 then (if bt291.1 ≤ (t285.length : Int) then (some ((t285.take (bt291.1 : Int).toNat), bt294.2.1, bt294.2.2)) else (none)) else (none)) else (some (t285, bt294.2.1, bt294.2.2))))))))))) = some (r1, r2, r3) := H
 have A3 := Aside0.mk A30
 clear A30
 replace H := Option.bind_eq_some_iff.mp H
 obtain ⟨⟨t291, t292, t293⟩, A40, H⟩ := H
 replace H : ((spec_l1Below.f s0_0 t292 t293 14).bind fun bt294 => (if bt294.1 = 0 then ((spec_l1PickInt.f s0_0 bt294.2.1 bt294.2.2 (([(-1), 0, 1, 4, (-2), 9223372036854775807] : List Int))).bind fun bt300 => (if 0 ≤ t291 then (if t291 < (t285.length : Int) then (some ((t285.set (t291 : Int).toNat (⟨bt300.1, (rd_T93 t285 t291).f1, (rd_T93 t285 t291).f2, (rd_T93 t285 t291).f3, (rd_T93 t285 t291).f4⟩ : S93)), bt300.2.1, bt300.2.2)) else (none)) else (none))) else (if bt294.1 = 1 then ((spec_l1PickInt.f s0_0 bt294.2.1 bt294.2.2 (([0, 1, 2147483648, (-2147483648), 500] : List Int))).bind fun bt307 => (if 0 ≤ t291 then (if t291 < (t285.length : Int) then (some ((t285.set (t291 : Int).toNat (⟨(rd_T93 t285 t291).f0, bt307.1, (rd_T93 t285 t291).f2, (rd_T93 t285 t291).f3, (rd_T93 t285 t291).f4⟩ : S93)), bt307.2.1, bt307.2.2)) else (none)) else (none))) else (if bt294.1 = 2 then ((spec_l1PickInt.f s0_0 bt294.2.1 bt294.2.2 (([0, 1, 2, (-1), 40, t291] : List Int))).bind fun bt314 => (if 0 ≤ t291 then (if t291 < (t285.length : Int) then (some ((t285.set (t291 : Int).toNat (⟨(rd_T93 t285 t291).f0, (rd_T93 t285 t291).f1, bt314.1, (rd_T93 t285 t291).f3, (rd_T93 t285 t291).f4⟩ : S93)), bt314.2.1, bt314.2.2)) else (none)) else (none))) else (if bt294.1 = 3 then ((spec_l1PickInt.f s0_0 bt294.2.1 bt294.2.2 (([0, 1, 2, (-1), 40, t291] : List Int))).bind fun bt321 => (if 0 ≤ t291 then (if t291 < (t285.length : Int) then (some ((t285.set (t291 : Int).toNat (⟨(rd_T93 t285 t291).f0, (rd_T93 t285 t291).f1, (rd_T93 t285 t291).f2, bt321.1, (rd_T93 t285 t291).f4⟩ : S93)), bt321.2.1, bt321.2.2)) else (none)) else (none))) else (if bt294.1 = 4 then ((spec_l1PickInt.f s0_0 bt294.2.1 bt294.2.2 (([0, 1, 1099511627776, 1099511627777, (-1099511627777)] : List Int))).bind fun bt328 => (if 0 ≤ t291 then (if t291 < (t285.length : Int) then (some ((t285.set (t291 : Int).toNat (⟨(rd_T93 t285 t291).f0, (rd_T93 t285 t291).f1, (rd_T93 t285 t291).f2, (rd_T93 t285 t291).f3, bt328.1⟩ : S93)), bt328.2.1, bt328.2.2)) else (none)) else (none))) else (if bt294.1 = 5 then (if t285.length < 3518437208883 then (some ((t285 ++ [(⟨(-1), 0, 0, 0, 0⟩ : S93)]), bt294.2.1, bt294.2.2)) else (none)) else (if bt294.1 = 6 then (if 0 ≤ t291 then (if t291 ≤ (t285.length : Int) then (some ((t285.take (t291 : Int).toNat), bt294.2.1, bt294.2.2)) else (none)) else (none)) else (some (t285, bt294.2.1, bt294.2.2)))))))))) = some (r1, r2, r3) := H
 have A4 := Aside0.mk A40
 clear A40
 replace H := Option.bind_eq_some_iff.mp H
 obtain ⟨⟨t294, t295, t296⟩, A50, H⟩ := H
 replace H : (if t294 = 0 then ((spec_l1PickInt.f s0_0 t295 t296 (([(-1), 0, 1, 4, (-2), 9223372036854775807] : List Int))).bind fun bt300 => (if 0 ≤ t291 then (if t291 < (t285.length : Int) then (some ((t285.set (t291 : Int).toNat (⟨bt300.1, (rd_T93 t285 t291).f1, (rd_T93 t285 t291).f2, (rd_T93 t285 t291).f3, (rd_T93 t285 t291).f4⟩ : S93)), bt300.2.1, bt300.2.2)) else (none)) else (none))) else (if t294 = 1 then ((spec_l1PickInt.f s0_0 t295 t296 (([0, 1, 2147483648, (-2147483648), 500] : List Int))).bind fun bt307 => (if 0 ≤ t291 then (if t291 < (t285.length : Int) then (some ((t285.set (t291 : Int).toNat (⟨(rd_T93 t285 t291).f0, bt307.1, (rd_T93 t285 t291).f2, (rd_T93 t285 t291).f3, (rd_T93 t285 t291).f4⟩ : S93)), bt307.2.1, bt307.2.2)) else (none)) else (none))) else (if t294 = 2 then ((spec_l1PickInt.f s0_0 t295 t296 (([0, 1, 2, (-1), 40, t291] : List Int))).bind fun bt314 => (if 0 ≤ t291 then (if t291 < (t285.length : Int) then (some ((t285.set (t291 : Int).toNat (⟨(rd_T93 t285 t291).f0, (rd_T93 t285 t291).f1, bt314.1, (rd_T93 t285 t291).f3, (rd_T93 t285 t291).f4⟩ : S93)), bt314.2.1, bt314.2.2)) else (none)) else (none))) else (if t294 = 3 then ((spec_l1PickInt.f s0_0 t295 t296 (([0, 1, 2, (-1), 40, t291] : List Int))).bind fun bt321 => (if 0 ≤ t291 then (if t291 < (t285.length : Int) then (some ((t285.set (t291 : Int).toNat (⟨(rd_T93 t285 t291).f0, (rd_T93 t285 t291).f1, (rd_T93 t285 t291).f2, bt321.1, (rd_T93 t285 t291).f4⟩ : S93)), bt321.2.1, bt321.2.2)) else (none)) else (none))) else (if t294 = 4 then ((spec_l1PickInt.f s0_0 t295 t296 (([0, 1, 1099511627776, 1099511627777, (-1099511627777)] : List Int))).bind fun bt328 => (if 0 ≤ t291 then (if t291 < (t285.length : Int) then (some ((t285.set (t291 : Int).toNat (⟨(rd_T93 t285 t291).f0, (rd_T93 t285 t291).f1, (rd_T93 t285 t291).f2, (rd_T93 t285 t291).f3, bt328.1⟩ : S93)), bt328.2.1, bt328.2.2)) else (none)) else (none))) else (if t294 = 5 then (if t285.length < 3518437208883 then (some ((t285 ++ [(⟨(-1), 0, 0, 0, 0⟩ : S93)]), t295, t296)) else (none)) else (if t294 = 6 then (if 0 ≤ t291 then (if t291 ≤ (t285.length : Int) then (some ((t285.take (t291 : Int).toNat), t295, t296)) else (none)) else (none)) else (some (t285, t295, t296))))))))) = some (r1, r2, r3) := H
 have A5 := Aside0.mk A50
 clear A50
 have HZ6 := Aside0.mk H
 clear H
 go_enter Try.func121, Try.ntmps121
 go_upto_if 17 with (first | ((with_reducible refine gate_dst (N := 2) rfl ?_); refine box_event ?hg (N := 2) ?hd (cs := #[.slice none 0 0]) (t := 68) ?hr ?_; (case hd => rfl); (case hg => rfl); (case hr => exact g10); intro gb281 hg w7 hbox hb; have n_ := spec_l17Bent.K8_ (IsS105.below (g29 HI0.out) hb) (KeepBut.trans (g31 HK.out) (KeepBut.of_below hb g none) (.inl rfl)) (below_step (g30 HB.out HI0.out) hb) hbox ((by rw [hg]; exact (keep_size (w := w) (g := g) (row := none) (g31 HK.out)) : w.heap.size ≤ gb281)) ((Nat.le_trans HW0.out (by rw [hg]; exact (keep_size (w := w) (g := g) (row := none) (g31 HK.out)) : w.heap.size ≤ gb281) : w0.heap.size ≤ gb281)) ((by rw [hg]; exact Nat.ne_of_lt (IsS105.lt (show IsS105 w0 _ g s0_0 s0_1 s0_2 from by repeat (first | (with_reducible first | exact HI0.out | apply IsS105.alloc | apply IsS105.drewN | apply IsS105.drew | apply IsS105.set_1 | apply IsS105.set_2) | exact HI0.out))) : g ≠ gb281)) ((by rw [hg]; exact Nat.ne_of_gt (IsS105.lt (show IsS105 w0 _ g s0_0 s0_1 s0_2 from by repeat (first | (with_reducible first | exact HI0.out | apply IsS105.alloc | apply IsS105.drewN | apply IsS105.drew | apply IsS105.set_1 | apply IsS105.set_2) | exact HI0.out))) : gb281 ≠ g)); clear HI0 HK HB; obtain ⟨HI0, HK, HB, BK281, GW281, GE281, NB0_281, NB281_0⟩ := n_; clear hb hbox hg) | ((with_reducible refine gate_callee (f := 101) rfl ?_); refine goesL_ (some 7) rfl rfl Try.func101 (by kernel_rfl) rfl #[.pointer (some ⟨g, 0, none⟩), .int .i64 3] rfl (g9) ?_; (with_reducible refine (spec_l1Below.calls g s0_0 s0_1 s0_2 3 t282 t283 t284 w0 _ ?side1 ?side2 A2.out).mono ?_); (case side1 => exact g39 HI0.out NB0_281.out); (case side2 => exact g40 HB.out HI0.out GE281.out); rintro e w8 ⟨rfl, hi, hb, hk⟩; refine ⟨_, rfl, ?_⟩; have n_ := spec_l17Bent.K4_ (KeepBut.blk hk (g' := gb281) (o := .cells #[.slice none 0 0] 68 (0, 0)) (g2 BK281.out) NB281_0.out (by simp)) (KeepBut.trans (g41 HK.out GW281.out) hk (.inl rfl)) hb hi; clear BK281 HK HB HI0; obtain ⟨BK281, HK, HB, HI0⟩ := n_; (try clear hb); (try clear hb2); (try clear hk); (try clear hi)) | ((with_reducible refine gate_callee (f := 148) rfl ?_); refine goesL_ (some 9) rfl rfl Try.func148 (by kernel_rfl) rfl #[.pointer (some ⟨g, 0, none⟩), .int .i64 (wrap64 (1 + t282))] rfl (g9) ?_; (with_reducible refine (spec_l17Right.calls k g s0_0 t283 t284 (wrap64 (1 + t282)) t285 t288 t289 w0 _ ?side1 ?side2 A3.out).mono ?_); (case side1 => exact g39 HI0.out NB0_281.out); (case side2 => exact g40 HB.out HI0.out GE281.out); rintro e w9 ⟨v286, rfl, ho0, hi, hb, hk⟩; refine ⟨_, rfl, ?_⟩; have n_ := spec_l17Bent.K5_ (KeepBut.blk hk (g' := gb281) (o := .cells #[.slice none 0 0] 68 (0, 0)) (g2 BK281.out) NB281_0.out (by simp)) (Kd.R_lower ho0 (keep_size (w := w) (g := g) (row := none) (g41 HK.out GW281.out))) (KeepBut.trans (g41 HK.out GW281.out) hk (.inl rfl)) hb hi; clear BK281 HK HB HI0; obtain ⟨BK281, HO287, HK, HB, HI0⟩ := n_; (try clear hb); (try clear hb2); (try clear hk); (try clear hi); (try clear ho0)) | ((with_reducible refine gate_dst (N := 3) rfl ?_); refine box_event ?hg (N := 3) ?hd (cs := #[.slice none 0 0]) (t := 68) ?hr ?_; (case hd => rfl); (case hg => rfl); (case hr => exact g10); intro gb290 hg w10 hbox hb; have n_ := spec_l17Bent.K12_ (Kd.R_below (g1 HO287.out) hb) (IsS105.below (g39 HI0.out NB0_281.out) hb) (blk_below (g := gb281) (o := .cells #[.slice none 0 0] 68 (0, 0)) (g2 BK281.out) hb) (KeepBut.trans (g41 HK.out GW281.out) (KeepBut.of_below hb g none) (.inl rfl)) (below_step (g40 HB.out HI0.out GE281.out) hb) hbox ((by rw [hg]; exact (keep_size (w := w) (g := g) (row := none) (g41 HK.out GW281.out)) : w.heap.size ≤ gb290)) ((Nat.le_trans HW0.out (by rw [hg]; exact (keep_size (w := w) (g := g) (row := none) (g41 HK.out GW281.out)) : w.heap.size ≤ gb290) : w0.heap.size ≤ gb290)) ((by rw [hg]; exact Nat.ne_of_lt (blk_lt (g := gb281) (o := .cells #[.slice none 0 0] 68 (0, 0)) (g2 BK281.out)) : gb281 ≠ gb290)) ((by rw [hg]; exact Nat.ne_of_gt (blk_lt (g := gb281) (o := .cells #[.slice none 0 0] 68 (0, 0)) (g2 BK281.out)) : gb290 ≠ gb281)) ((by rw [hg]; exact Nat.ne_of_lt (IsS105.lt (show IsS105 w0 _ g s0_0 t288 t289 from by repeat (first | (with_reducible first | exact HI0.out | apply IsS105.alloc | apply IsS105.drewN | apply IsS105.drew | apply IsS105.set_1 | apply IsS105.set_2 | refine IsS105.far ?_ NB0_281.out _) | exact HI0.out))) : g ≠ gb290)) ((by rw [hg]; exact Nat.ne_of_gt (IsS105.lt (show IsS105 w0 _ g s0_0 t288 t289 from by repeat (first | (with_reducible first | exact HI0.out | apply IsS105.alloc | apply IsS105.drewN | apply IsS105.drew | apply IsS105.set_1 | apply IsS105.set_2 | refine IsS105.far ?_ NB0_281.out _) | exact HI0.out))) : gb290 ≠ g)); clear HO287 HI0 BK281 HK HB; obtain ⟨HO287, HI0, BK281, HK, HB, BK290, GW290, GE290, NB281_290, NB290_281, NB0_290, NB290_0⟩ := n_; clear hb hbox hg; obtain ⟨Ao11, co11, eo11⟩ := Kd.R_slice HO287.out; subst eo11; have hnb12 := NB290_281.out; have hnc12 := NB281_290.out; have hnb13 := NB290_0.out; have hnc13 := NB0_290.out; have hcz14_0 : w10.cell? ⟨gb290, 0, none⟩ = some (.slice none 0 0) := (blk_cell BK290.out 0).trans rfl; have hfz14_0 := blk_frozen BK290.out 0) | ((with_reducible refine gate_callee (f := 101) rfl ?_); refine goesL_ (some 14) rfl rfl Try.func101 (by kernel_rfl) rfl #[.pointer (some ⟨g, 0, none⟩), .int .i64 (t285.length : Int)] rfl (g9) ?_; (with_reducible refine (spec_l1Below.calls g s0_0 t288 t289 (t285.length : Int) t291 t292 t293 w0 _ ?side1 ?side2 A4.out).mono ?_); (case side1 => exact g42 HI0.out NB0_281.out NB0_290.out); (case side2 => exact g43 HB.out HI0.out GE281.out GE290.out); rintro e w15 ⟨rfl, hi, hb, hk⟩; refine ⟨_, rfl, ?_⟩; have n_ := spec_l17Bent.K6_ (KeepBut.blk hk (g' := gb281) (o := .cells #[.slice none 0 0] 68 (0, 0)) (g22 NB281_290.out BK281.out) NB281_0.out (by simp)) (Kd.R_mono (Kd.R_keep (IsS105.apart (show IsS105 w0 _ g s0_0 t288 t289 from by repeat (first | (with_reducible first | exact HI0.out | apply IsS105.alloc | apply IsS105.drewN | apply IsS105.drew | apply IsS105.set_1 | apply IsS105.set_2 | refine IsS105.far ?_ NB0_281.out _ | refine IsS105.far ?_ NB0_290.out _) | exact HI0.out)) (by (with_reducible repeat (first | apply Kd.R_alloc | apply Kd.R_drewN | apply Kd.R_drew)); exact (Kd.R_mono (Kd.R_far (p := ⟨gb290, 0, none⟩) (Kd.R_types HO287.out BK290.out (by decide)) (fun _ hk => hk.2) (.slice Ao11 t285.length co11)) (fun _ h_ => h_.1))) (by decide)) hk (fun _ h => h.2)) (fun _ h => h.1)) (KeepBut.blk hk (g' := gb290) (o := .cells #[.slice Ao11 t285.length co11] 68 (0, 0)) (by (with_reducible repeat (first | refine blk_drewN ?_ _ | refine blk_drew ?_ | refine blk_alloc ?_ _)); refine blk_put (cs := #[.slice none 0 0]) ?_ 0 _ rfl; (with_reducible repeat (first | refine blk_drewN ?_ _ | refine blk_drew ?_ | refine blk_alloc ?_ _)); exact BK290.out) NB290_0.out (by simp)) (KeepBut.trans (g44 HK.out GW281.out GW290.out) hk (.inl rfl)) hb hi; clear BK281 HO287 BK290 HK HB HI0; obtain ⟨BK281, HO287, BK290, HK, HB, HI0⟩ := n_; (try clear hb); (try clear hb2); (try clear hk); (try clear hi)) | ((with_reducible refine gate_callee (f := 101) rfl ?_); refine goesL_ (some 16) rfl rfl Try.func101 (by kernel_rfl) rfl #[.pointer (some ⟨g, 0, none⟩), .int .i64 14] rfl (g9) ?_; (with_reducible refine (spec_l1Below.calls g s0_0 t292 t293 14 t294 t295 t296 w0 _ ?side1 ?side2 A5.out).mono ?_); (case side1 => exact g42 HI0.out NB0_281.out NB0_290.out); (case side2 => exact g43 HB.out HI0.out GE281.out GE290.out); rintro e w16 ⟨rfl, hi, hb, hk⟩; refine ⟨_, rfl, ?_⟩; have n_ := spec_l17Bent.K6_ (KeepBut.blk hk (g' := gb281) (o := .cells #[.slice none 0 0] 68 (0, 0)) (g2 BK281.out) NB281_0.out (by simp)) (Kd.R_mono (Kd.R_keep (IsS105.apart (show IsS105 w0 _ g s0_0 t292 t293 from by repeat (first | (with_reducible first | exact HI0.out | apply IsS105.alloc | apply IsS105.drewN | apply IsS105.drew | apply IsS105.set_1 | apply IsS105.set_2 | refine IsS105.far ?_ NB0_281.out _ | refine IsS105.far ?_ NB0_290.out _) | exact HI0.out)) (g1 HO287.out) (by decide)) hk (fun _ h => h.2)) (fun _ h => h.1)) (KeepBut.blk hk (g' := gb290) (o := .cells #[.slice Ao11 t285.length co11] 68 (0, 0)) (g2 BK290.out) NB290_0.out (by simp)) (KeepBut.trans (g44 HK.out GW281.out GW290.out) hk (.inl rfl)) hb hi; clear BK281 HO287 BK290 HK HB HI0; obtain ⟨BK281, HO287, BK290, HK, HB, HI0⟩ := n_; (try clear hb); (try clear hb2); (try clear hk); (try clear hi)))
 (try simp only [Act.put, List.setIfInBounds_toArray, List.set_cons_zero, List.set_cons_succ])
 have H := HZ6.out
 clear HZ6
 by_cases c17 : t294 = 0
 case pos =>
  rw [if_pos c17] at H
  have c17b0 : (t294 == 0) = true := beq_iff_eq.mpr c17
  have c17b1 : (t294 != 0) = false := bne_eq_false_iff_eq.mpr c17
  clear c17
  (first | rw [c17b0] | (simp only [i64_w, i32_w]; rw [c17b0]) | skip)
  obtain ⟨y297, hy297⟩ : ∃ y_ : List Int, y_ = (([(-1), 0, 1, 4, (-2), 9223372036854775807] : List Int)) := ⟨_, rfl⟩
  replace H : ((spec_l1PickInt.f s0_0 t295 t296 y297).bind fun bt300 => (if 0 ≤ t291 then (if t291 < (t285.length : Int) then (some ((t285.set (t291 : Int).toNat (⟨bt300.1, (rd_T93 t285 t291).f1, (rd_T93 t285 t291).f2, (rd_T93 t285 t291).f3, (rd_T93 t285 t291).f4⟩ : S93)), bt300.2.1, bt300.2.2)) else (none)) else (none))) = some (r1, r2, r3) := by first | (rw [hy297]; with_reducible exact H) | (have H2_ := (Option.bind_some _ _).symm.trans H; rw [hy297]; with_reducible exact H2_) | (have H2_ := (Option.bind_some _ _).symm.trans H; with_reducible exact H2_) | with_reducible exact H | (rw [hy297]; exact H) | exact H
  have Ny297 := Aside0.mk hy297
  clear hy297
  replace H := Option.bind_eq_some_iff.mp H
  obtain ⟨⟨t300, t301, t302⟩, A180, H⟩ := H
  replace H : (if 0 ≤ t291 then (if t291 < (t285.length : Int) then (some ((t285.set (t291 : Int).toNat (⟨t300, (rd_T93 t285 t291).f1, (rd_T93 t285 t291).f2, (rd_T93 t285 t291).f3, (rd_T93 t285 t291).f4⟩ : S93)), t301, t302)) else (none)) else (none)) = some (r1, r2, r3) := H
  have A18 := Aside0.mk A180
  clear A180
  by_cases c19 : 0 ≤ t291
  case neg =>
   rw [if_neg c19] at H
   exact absurd H (by simp)
  rw [if_pos c19] at H
  have c19b0 : decide (0 ≤ t291) = true := decide_eq_true c19
  clear c19
  by_cases c20 : t291 < (t285.length : Int)
  case neg =>
   rw [if_neg c20] at H
   exact absurd H (by simp)
  rw [if_pos c20] at H
  have c20b0 : decide (t291 < (t285.length : Int)) = true := decide_eq_true c20
  clear c20
  obtain ⟨y303, hy303⟩ : ∃ y_ : List (S93), y_ = (t285.set (t291 : Int).toNat (⟨t300, (rd_T93 t285 t291).f1, (rd_T93 t285 t291).f2, (rd_T93 t285 t291).f3, (rd_T93 t285 t291).f4⟩ : S93)) := ⟨_, rfl⟩
  replace H : (some (y303, t301, t302)) = some (r1, r2, r3) := by first | (rw [hy303]; with_reducible exact H) | (have H2_ := (Option.bind_some _ _).symm.trans H; rw [hy303]; with_reducible exact H2_) | (have H2_ := (Option.bind_some _ _).symm.trans H; with_reducible exact H2_) | with_reducible exact H | (rw [hy303]; exact H) | exact H
  have Ny303 := Aside0.mk hy303
  clear hy303
  simp only [Option.some.injEq, Prod.mk.injEq] at H
  obtain ⟨rfl, rfl, rfl⟩ := H
  try go_wp2
  have n_ := spec_l17Bent.K6_ (Kd.R_drew HO287.out) (blk_drew BK281.out) (blk_drew BK290.out) (IsS105.drew HI0.out) (keep_drew HK.out) (below_drew1 HB.out)
  clear HO287 BK281 BK290 HI0 HK HB
  obtain ⟨HO287, BK281, BK290, HI0, HK, HB⟩ := n_
  refine start_ (n := 9) (S := fun w' => w'.cell? ⟨gb290, 0, none⟩ = some (.slice Ao11 t285.length co11)) (ds := [8]) spec_l17Bent.b0_ (by kernel_rfl) rfl rfl ((blk_cell BK290.out 0).trans rfl) (fun hHeld => ?_); refine with_tabW spec_l17Bent.tab5 spec_l17Bent.bits5 (fun HT_ HW_ => ?_)
  generalize w16.drew = w22 at HO287 BK281 BK290 HI0 HK HB hHeld ⊢
  refine pure_ (i := 0) (N := some 19) (v := ?_) (a' := ?_) spec_l17Bent.b1_ rfl rfl (any_of HT_.out (by kernel_rfl)) (fun _ _ _ h => h) (Or.inl ⟨by rfl, ?_⟩) ?_ ?_
  rotate_left
  ·intro w'
   go_simp
   with_reducible rfl
  rotate_left
  ·exact ga0
  refine pure_ (i := 2) (N := some 21) (v := ?_) (a' := ?_) spec_l17Bent.b2_ rfl rfl (any_of HT_.out (by kernel_rfl)) (fun _ _ _ h => h) (Or.inl ⟨by rfl, ?_⟩) ?_ ?_
  rotate_left
  ·intro w'
   go_simp
   with_reducible rfl
  rotate_left
  ·exact ga0
  refine pure_ (i := 3) (N := some 22) (v := ?_) (a' := ?_) spec_l17Bent.b3_ rfl rfl (any_of HT_.out (by kernel_rfl)) (fun _ _ _ h => h) (Or.inl ⟨by rfl, ?_⟩) ?_ ?_
  rotate_left
  ·intro w'
   go_simp
   with_reducible rfl
  rotate_left
  ·exact ga0
  refine take_ (i := 1) (N := some 20) (v := ?_) (a' := ?_) spec_l17Bent.b4_ rfl rfl (take_ofW HT_.out HW_.out (by kernel_rfl)) (fun _ _ _ h => h) (Or.inl ⟨by rfl, ?_⟩) hHeld ?_ ?_
  rotate_left
  ·intro w' s0
   go_simp
   with_reducible rfl
  rotate_left
  ·exact ga0
  refine one_ (i := 4) (N := some 23) spec_l17Bent.b5_ rfl rfl (one_of HT_.out (by kernel_rfl)) (by decide) (fun K hK => ?_)
  refine Kd.R_lit_step (Kd.int .i64) _ 3 ?hg (N := 23) ?hd (xs := ([(-1), 0, 1, 4, (-2), 9223372036854775807] : List Int)) (inner := [.int .i64 (-1), .int .i64 0, .int .i64 1, .int .i64 4, .int .i64 (-2), .int .i64 9223372036854775807]) (ok := fun _ => True) (okp := fun _ => True) ?hr ?hp (fun _ hk => hk) trivial (Below.refl _ _) (Nat.le_refl _) (by simp) ?_; (case hd => rfl); (case hg => rfl); (case hr => exact g10); (case hp => exact (Reps.one (show Kd.M (Kd.int .i64) _ _ _ (-1) [.int .i64 (-1)] from rfl) (Reps.one (show Kd.M (Kd.int .i64) _ _ _ 0 [.int .i64 0] from rfl) (Reps.one (show Kd.M (Kd.int .i64) _ _ _ 1 [.int .i64 1] from rfl) (Reps.one (show Kd.M (Kd.int .i64) _ _ _ 4 [.int .i64 4] from rfl) (Reps.one (show Kd.M (Kd.int .i64) _ _ _ (-2) [.int .i64 (-2)] from rfl) (Reps.one (show Kd.M (Kd.int .i64) _ _ _ 9223372036854775807 [.int .i64 9223372036854775807] from rfl) (Reps.none _ _))))))))
  intro v298 w23 ho24 hb hg_ hnew_
  clear hg_ hnew_
  (first | rw [← Ny297.out] at ho24 | (simp only [Int.reduceToNat] at ho24; rw [← Ny297.out] at ho24))
  have n_ := spec_l17Bent.K7_ (Kd.R_below (g1 HO287.out) hb) (Kd.R_lower ho24 (keep_size (w := w) (g := g) (row := none) (g44 HK.out GW281.out GW290.out))) (IsS105.below (g42 HI0.out NB0_281.out NB0_290.out) hb) (blk_below (g := gb281) (o := .cells #[.slice none 0 0] 68 (0, 0)) (g2 BK281.out) hb) (blk_below (g := gb290) (o := .cells #[.slice Ao11 t285.length co11] 68 (0, 0)) (g2 BK290.out) hb) (KeepBut.trans (g44 HK.out GW281.out GW290.out) (KeepBut.of_below hb g none) (.inl rfl)) (below_step (g43 HB.out HI0.out GE281.out GE290.out) hb)
  clear HO287 HI0 BK281 BK290 HK HB
  obtain ⟨HO287, HO299, HI0, BK281, BK290, HK, HB⟩ := n_
  clear hb ho24
  obtain ⟨Ao25, co25, eo25⟩ := Kd.R_slice HO299.out
  (first | subst eo25 | (injection eo25 with f1_ f2_ f3_; have f4_ := f1_.symm; have f5_ := f3_.symm; clear f1_ f2_ f3_; subst f4_; subst f5_))
  refine hK.out _ _ ((blk_cell BK290.out 0).trans rfl) (fun hHeld => ?_)
  clear hK K
  refine norm_ (a' := ?_) ?_ ?_
  rotate_left
  ·show Act.put _ (some 23) _ = _
   simp only [Act.put, List.setIfInBounds_toArray, List.set_cons_zero, List.set_cons_succ, i64_w, i32_w]
   rfl
  refine one_ (i := 5) (N := some 24) spec_l17Bent.b6_ rfl rfl (one_of HT_.out (by kernel_rfl)) (by decide) (fun K hK => ?_)
  refine goes_ Try.func47 (by kernel_rfl) rfl #[.pointer (some ⟨g, 0, none⟩), .slice Ao25 y297.length co25] (by rfl) rfl rfl (g9) ?_
  with_reducible refine (spec_l1PickInt.calls g s0_0 t295 t296 _ _ y297 t300 t301 t302 w0 _ ?side1 ?side2 ?side3 ?side4 ?side5 A18.out).mono ?_
  (case side1 => exact g42 HI0.out NB0_281.out NB0_290.out)
  (case side2 => exact g43 HB.out HI0.out GE281.out GE290.out)
  (case side3 => exact g26 HO299.out)
  (case side4 => exact (Kd.R_reads' HO299.out).2.1)
  (case side5 => exact g50 HI0.out HO299.out)
  rintro e w26 ⟨rfl, hi, hb, hk⟩
  refine ⟨_, rfl, ?_⟩
  have n_ := spec_l17Bent.K7_ (KeepBut.blk hk (g' := gb281) (o := .cells #[.slice none 0 0] 68 (0, 0)) (g2 BK281.out) NB281_0.out (by simp)) (Kd.R_mono (Kd.R_keep (IsS105.apart (show IsS105 w0 _ g s0_0 t295 t296 from by repeat (first | (with_reducible first | exact HI0.out | apply IsS105.alloc | apply IsS105.drewN | apply IsS105.drew | apply IsS105.set_1 | apply IsS105.set_2 | refine IsS105.far ?_ NB0_281.out _ | refine IsS105.far ?_ NB0_290.out _) | exact HI0.out)) (g1 HO287.out) (by decide)) hk (fun _ h => h.2)) (fun _ h => h.1)) (KeepBut.blk hk (g' := gb290) (o := .cells #[.slice Ao11 t285.length co11] 68 (0, 0)) (g2 BK290.out) NB290_0.out (by simp)) (Kd.R_mono (Kd.R_keep (IsS105.apart (show IsS105 w0 _ g s0_0 t295 t296 from by repeat (first | (with_reducible first | exact HI0.out | apply IsS105.alloc | apply IsS105.drewN | apply IsS105.drew | apply IsS105.set_1 | apply IsS105.set_2 | refine IsS105.far ?_ NB0_281.out _ | refine IsS105.far ?_ NB0_290.out _) | exact HI0.out)) (g1 HO299.out) (by decide)) hk (fun _ h => h.2)) (fun _ h => h.1)) (KeepBut.trans (g44 HK.out GW281.out GW290.out) hk (.inl rfl)) hb hi
  clear BK281 HO287 BK290 HO299 HK HB HI0
  obtain ⟨BK281, HO287, BK290, HO299, HK, HB, HI0⟩ := n_
  (try clear hb)
  (try clear hb2)
  (try clear hk)
  (try clear hi)
  have p21 : 0 ≤ (t291 : Int) := of_decide_eq_true (g6)
  have q21 : (t291 : Int) < ((t285.length : Int) : Int) := of_decide_eq_true (g6)
  obtain ⟨go21, co21, eo21, gb21, gl21, cl21, HG21⟩ := Kd.R_form HO287.out (by omega)
  (first | cases eo21 | (injection eo21 with ea_ en_ ec_; (first | subst ea_ | (injection ea_ with ea_; subst ea_)); subst ec_; clear en_))
  have GB21 := Aside0.mk gb21
  have GG21 := Aside0.mk HG21
  clear gb21 gl21 HG21
  obtain ⟨ce21, hcl21, hM21, hcc21, hfr21⟩ := Kd.R_elem HO287.out z93 (t291 : Int) p21 q21
  obtain rfl := k93_openM hM21
  have hx21_0 : World.cell? _ ⟨go21, (t291 : Int).toNat * 5, none⟩ = some (.int .i64 ((rd_T93 t285 t291).f0)) := hcc21 0 _ rfl
  have hx21_1 : World.cell? _ ⟨go21, (t291 : Int).toNat * 5 + 1, none⟩ = some (.int .i64 ((rd_T93 t285 t291).f1)) := hcc21 1 _ rfl
  have hx21_2 : World.cell? _ ⟨go21, (t291 : Int).toNat * 5 + 2, none⟩ = some (.int .i64 ((rd_T93 t285 t291).f2)) := hcc21 2 _ rfl
  have hx21_3 : World.cell? _ ⟨go21, (t291 : Int).toNat * 5 + 3, none⟩ = some (.int .i64 ((rd_T93 t285 t291).f3)) := hcc21 3 _ rfl
  have hx21_4 : World.cell? _ ⟨go21, (t291 : Int).toNat * 5 + 4, none⟩ = some (.int .i64 ((rd_T93 t285 t291).f4)) := hcc21 4 _ rfl
  have hf21_0 : World.frozen? _ ⟨go21, (t291 : Int).toNat * 5, none⟩ = false := hfr21 0
  have hf21_1 : World.frozen? _ ⟨go21, (t291 : Int).toNat * 5 + 1, none⟩ = false := hfr21 1
  have hf21_2 : World.frozen? _ ⟨go21, (t291 : Int).toNat * 5 + 2, none⟩ = false := hfr21 2
  have hf21_3 : World.frozen? _ ⟨go21, (t291 : Int).toNat * 5 + 3, none⟩ = false := hfr21 3
  have hf21_4 : World.frozen? _ ⟨go21, (t291 : Int).toNat * 5 + 4, none⟩ = false := hfr21 4
  clear hcl21 hcc21 hfr21; (try clear hM21)
  replace p21 := eq_true p21
  replace q21 := eq_true q21
  have HN0_go21 := Aside0.mk (show g ≠ go21 from by have h_ := IsS105.own_ne HI0.out HO287.out (by decide); intro e_; exact h_ (by rw [e_]; rfl))
  obtain ⟨ce27, hcl27, hM27, hcc27, hfr27⟩ := Kd.R_elem HO287.out z93 (t291 : Int) (of_decide_eq_true (g6)) spec_l17Bent.z0
  obtain rfl := k93_openM hM27
  have HP27 := (Kd.R_seg HO287.out (t291 : Int) (of_decide_eq_true (g6)) spec_l17Bent.z0 (seg := [.int .i64 t300]) (j := 0) hcl27 hcc27 (show 1 ≤ 5 from by decide) (x' := (⟨t300, (rd_T93 t285 t291).f1, (rd_T93 t285 t291).f2, (rd_T93 t285 t291).f3, (rd_T93 t285 t291).f4⟩ : S93)) (k93_mkM _ _ _ (⟨t300, (rd_T93 t285 t291).f1, (rd_T93 t285 t291).f2, (rd_T93 t285 t291).f3, (rd_T93 t285 t291).f4⟩ : S93) ) (fun _ hk => hk)).1
  rw [← Ny303.out] at HP27
  have HQ27 := Aside0.mk HP27
  clear hcl27 hcc27 hfr27 HP27; (try clear hM27)
  refine hK.out _ _ ((blk_cell BK290.out 0).trans rfl) (fun hHeld => ?_)
  clear hK K
  refine norm_ (a' := ?_) ?_ ?_
  rotate_left
  ·show Act.put _ (some 24) _ = _
   simp only [Act.put, List.setIfInBounds_toArray, List.set_cons_zero, List.set_cons_succ, i64_w, i32_w]
   rfl
  refine pure_ (i := 6) (N := some 25) (v := ?_) (a' := ?_) spec_l17Bent.b7_ rfl rfl (any_of HT_.out (by kernel_rfl)) (fun _ _ _ h => h) (Or.inl ⟨by rfl, ?_⟩) ?_ ?_
  rotate_left
  ·intro w'
   go_simp
   with_reducible rfl
  rotate_left
  ·exact ga0
  refine pure_ (i := 7) (N := some 26) (v := ?_) (a' := ?_) spec_l17Bent.b8_ rfl rfl (any_of HT_.out (by kernel_rfl)) (fun _ _ _ h => h) (Or.inl ⟨by rfl, ?_⟩) ?_ ?_
  rotate_left
  ·intro w'
   go_simp
   with_reducible rfl
  rotate_left
  ·exact ga0
  refine last_ (i := 8) (N := none) spec_l17Bent.b9_ rfl rfl (one_of HT_.out (by kernel_rfl)) (by decide) (fun K hK => ?_)
  refine skip_ (w1 := ?_) (by rfl) rfl ?_ ?_
  rotate_left
  ·go_simp
   rfl
  refine hK.out _ _ ?_
  clear hK K
  refine done_ (done_of HT_.out (by kernel_rfl)) ?_
  have n0_ : Aside0 (Kd.R k93 93 (w26.setCell ⟨go21, (t291 : Int).toNat * 5, none⟩ (.int .i64 t300)) w.heap.size (fun _ => True) (.slice (some ⟨go21, 0, none⟩) t285.length co11) y303) := ⟨g1 HQ27.out⟩
  have n1_ : Aside0 (Kd.R (Kd.int .i64) 3 (w26.setCell ⟨go21, (t291 : Int).toNat * 5, none⟩ (.int .i64 t300)) w.heap.size (fun _ => True) (.slice Ao25 y297.length co25) y297) := ⟨by (with_reducible repeat (first | apply Kd.R_alloc | apply Kd.R_drewN | apply Kd.R_drew)); exact Kd.R_mono (Kd.R_far (p := ⟨go21, (t291 : Int).toNat * 5, none⟩) (Kd.R_types HO299.out GG21.out (by decide)) (fun _ hk => hk.2) (.int .i64 t300)) (fun _ hk => trivial)⟩
  have n2_ : Aside0 ((w26.setCell ⟨go21, (t291 : Int).toNat * 5, none⟩ (.int .i64 t300)).heap[gb281]? = some (.cells #[.slice none 0 0] 68 (0, 0))) := ⟨by (with_reducible repeat (first | refine blk_drewN ?_ _ | refine blk_drew ?_ | refine blk_alloc ?_ _)); refine blk_far ?_ spec_l17Bent.z1 _; (with_reducible repeat (first | refine blk_drewN ?_ _ | refine blk_drew ?_ | refine blk_alloc ?_ _)); exact BK281.out⟩
  have n3_ : Aside0 ((w26.setCell ⟨go21, (t291 : Int).toNat * 5, none⟩ (.int .i64 t300)).heap[gb290]? = some (.cells #[.slice (some ⟨go21, 0, none⟩) t285.length co11] 68 (0, 0))) := ⟨by (with_reducible repeat (first | refine blk_drewN ?_ _ | refine blk_drew ?_ | refine blk_alloc ?_ _)); refine blk_far ?_ spec_l17Bent.z2 _; (with_reducible repeat (first | refine blk_drewN ?_ _ | refine blk_drew ?_ | refine blk_alloc ?_ _)); exact BK290.out⟩
  have n4_ : Aside0 (IsS105 w0 (w26.setCell ⟨go21, (t291 : Int).toNat * 5, none⟩ (.int .i64 t300)) g s0_0 t301 t302) := ⟨g46 HI0.out HN0_go21.out NB0_281.out NB0_290.out⟩
  have n5_ : Aside0 (KeepBut w (w26.setCell ⟨go21, (t291 : Int).toNat * 5, none⟩ (.int .i64 t300)) g none) := ⟨g47 HK.out GB21.out GW281.out GW290.out⟩
  have n6_ : Aside0 (Below w0.heap.size w0 (w26.setCell ⟨go21, (t291 : Int).toNat * 5, none⟩ (.int .i64 t300))) := ⟨g51 HB.out HL.out GB21.out HI0.out GE281.out GE290.out⟩
  (try clear HO287)
  (try clear HO299)
  (try clear BK281)
  (try clear BK290)
  (try clear HI0)
  (try clear HK)
  (try clear HB)
  generalize (w26.setCell ⟨go21, (t291 : Int).toNat * 5, none⟩ (.int .i64 t300)) = w28 at n0_ n1_ n2_ n3_ n4_ n5_ n6_ ⊢
  have HO287 := n0_
  have HO299 := n1_
  have BK281 := n2_
  have BK290 := n3_
  have HI0 := n4_
  have HK := n5_
  have HB := n6_
  clear n0_ n1_ n2_ n3_ n4_ n5_ n6_
  have hnb29 := NB290_281.out
  have hnc29 := NB281_290.out
  have hnb30 := NB290_0.out
  have hnc30 := NB0_290.out
  have hcz31_0 : w28.cell? ⟨gb290, 0, none⟩ = some (.slice (some ⟨go21, 0, none⟩) t285.length co11) := (blk_cell BK290.out 0).trans rfl
  have hfz31_0 := blk_frozen BK290.out 0
  have hnb32 := NB281_0.out
  have hnc32 := NB0_281.out
  have hcz33_0 : w28.cell? ⟨gb281, 0, none⟩ = some (.slice none 0 0) := (blk_cell BK281.out 0).trans rfl
  have hfz33_0 := blk_frozen BK281.out 0
  try go_wp2
  refine bodyPost_ret (results_cell_row rfl _ _ gb281 68 #[.slice (some ⟨go21, 0, none⟩) t285.length co11] (0, 0) _ rfl spec_l17Bent.z3 Try.underlying68 rfl (by kernel_rfl)) rfl ?_
  exact ⟨_, g5, by (with_reducible repeat (first | apply Kd.R_alloc | apply Kd.R_drewN | apply Kd.R_drew)); exact Kd.R_mono (Kd.R_far (p := ⟨gb281, 0, none⟩) (Kd.R_types HO287.out BK281.out (by decide)) (fun _ hk => hk.2) (.slice (some ⟨go21, 0, none⟩) t285.length co11)) (fun _ hk => trivial), g42 HI0.out NB0_281.out NB0_290.out, g43 HB.out HI0.out GE281.out GE290.out, g44 HK.out GW281.out GW290.out⟩
 rw [if_neg c17] at H
 have c17b0 : (t294 == 0) = false := beq_eq_false_iff_ne.mpr c17
 have c17b1 : (t294 != 0) = true := bne_iff_ne.mpr c17
 (first | rw [c17b0] | (simp only [i64_w, i32_w]; rw [c17b0]) | skip)
 by_cases c34 : t294 = 1
 case pos =>
  rw [if_pos c34] at H
  have c34b0 : (t294 == 1) = true := beq_iff_eq.mpr c34
  have c34b1 : (t294 != 1) = false := bne_eq_false_iff_eq.mpr c34
  clear c34
  obtain ⟨y304, hy304⟩ : ∃ y_ : List Int, y_ = (([0, 1, 2147483648, (-2147483648), 500] : List Int)) := ⟨_, rfl⟩
  replace H : ((spec_l1PickInt.f s0_0 t295 t296 y304).bind fun bt307 => (if 0 ≤ t291 then (if t291 < (t285.length : Int) then (some ((t285.set (t291 : Int).toNat (⟨(rd_T93 t285 t291).f0, bt307.1, (rd_T93 t285 t291).f2, (rd_T93 t285 t291).f3, (rd_T93 t285 t291).f4⟩ : S93)), bt307.2.1, bt307.2.2)) else (none)) else (none))) = some (r1, r2, r3) := by first | (rw [hy304]; with_reducible exact H) | (have H2_ := (Option.bind_some _ _).symm.trans H; rw [hy304]; with_reducible exact H2_) | (have H2_ := (Option.bind_some _ _).symm.trans H; with_reducible exact H2_) | with_reducible exact H | (rw [hy304]; exact H) | exact H
  have Ny304 := Aside0.mk hy304
  clear hy304
  replace H := Option.bind_eq_some_iff.mp H
  obtain ⟨⟨t307, t308, t309⟩, A350, H⟩ := H
  replace H : (if 0 ≤ t291 then (if t291 < (t285.length : Int) then (some ((t285.set (t291 : Int).toNat (⟨(rd_T93 t285 t291).f0, t307, (rd_T93 t285 t291).f2, (rd_T93 t285 t291).f3, (rd_T93 t285 t291).f4⟩ : S93)), t308, t309)) else (none)) else (none)) = some (r1, r2, r3) := H
  have A35 := Aside0.mk A350
  clear A350
  by_cases c36 : 0 ≤ t291
  case neg =>
   rw [if_neg c36] at H
   exact absurd H (by simp)
  rw [if_pos c36] at H
  have c36b0 : decide (0 ≤ t291) = true := decide_eq_true c36
  clear c36
  by_cases c37 : t291 < (t285.length : Int)
  case neg =>
   rw [if_neg c37] at H
   exact absurd H (by simp)
  rw [if_pos c37] at H
  have c37b0 : decide (t291 < (t285.length : Int)) = true := decide_eq_true c37
  clear c37
  obtain ⟨y310, hy310⟩ : ∃ y_ : List (S93), y_ = (t285.set (t291 : Int).toNat (⟨(rd_T93 t285 t291).f0, t307, (rd_T93 t285 t291).f2, (rd_T93 t285 t291).f3, (rd_T93 t285 t291).f4⟩ : S93)) := ⟨_, rfl⟩
  replace H : (some (y310, t308, t309)) = some (r1, r2, r3) := by first | (rw [hy310]; with_reducible exact H) | (have H2_ := (Option.bind_some _ _).symm.trans H; rw [hy310]; with_reducible exact H2_) | (have H2_ := (Option.bind_some _ _).symm.trans H; with_reducible exact H2_) | with_reducible exact H | (rw [hy310]; exact H) | exact H
  have Ny310 := Aside0.mk hy310
  clear hy310
  simp only [Option.some.injEq, Prod.mk.injEq] at H
  obtain ⟨rfl, rfl, rfl⟩ := H
  try go_wp2
  have n_ := spec_l17Bent.K6_ (Kd.R_drew HO287.out) (blk_drew BK281.out) (blk_drew BK290.out) (IsS105.drew HI0.out) (keep_drew HK.out) (below_drew1 HB.out)
  clear HO287 BK281 BK290 HI0 HK HB
  obtain ⟨HO287, BK281, BK290, HI0, HK, HB⟩ := n_
  refine start_ (n := 9) (S := fun w' => w'.cell? ⟨gb290, 0, none⟩ = some (.slice Ao11 t285.length co11)) (ds := [8]) spec_l17Bent.b0_ (by kernel_rfl) rfl rfl ((blk_cell BK290.out 0).trans rfl) (fun hHeld => ?_); refine with_tabW spec_l17Bent.tab7 spec_l17Bent.bits7 (fun HT_ HW_ => ?_)
  generalize w16.drew = w39 at HO287 BK281 BK290 HI0 HK HB hHeld ⊢
  refine pure_ (i := 0) (N := some 29) (v := ?_) (a' := ?_) spec_l17Bent.b1_ rfl rfl (any_of HT_.out (by kernel_rfl)) (fun _ _ _ h => h) (Or.inl ⟨by rfl, ?_⟩) ?_ ?_
  rotate_left
  ·intro w'
   go_simp
   with_reducible rfl
  rotate_left
  ·exact ga0
  refine pure_ (i := 2) (N := some 31) (v := ?_) (a' := ?_) spec_l17Bent.b2_ rfl rfl (any_of HT_.out (by kernel_rfl)) (fun _ _ _ h => h) (Or.inl ⟨by rfl, ?_⟩) ?_ ?_
  rotate_left
  ·intro w'
   go_simp
   with_reducible rfl
  rotate_left
  ·exact ga0
  refine pure_ (i := 3) (N := some 32) (v := ?_) (a' := ?_) spec_l17Bent.b3_ rfl rfl (any_of HT_.out (by kernel_rfl)) (fun _ _ _ h => h) (Or.inl ⟨by rfl, ?_⟩) ?_ ?_
  rotate_left
  ·intro w'
   go_simp
   with_reducible rfl
  rotate_left
  ·exact ga0
  refine take_ (i := 1) (N := some 30) (v := ?_) (a' := ?_) spec_l17Bent.b4_ rfl rfl (take_ofW HT_.out HW_.out (by kernel_rfl)) (fun _ _ _ h => h) (Or.inl ⟨by rfl, ?_⟩) hHeld ?_ ?_
  rotate_left
  ·intro w' s0
   go_simp
   with_reducible rfl
  rotate_left
  ·exact ga0
  refine one_ (i := 4) (N := some 33) spec_l17Bent.b5_ rfl rfl (one_of HT_.out (by kernel_rfl)) (by decide) (fun K hK => ?_)
  refine Kd.R_lit_step (Kd.int .i64) _ 3 ?hg (N := 33) ?hd (xs := ([0, 1, 2147483648, (-2147483648), 500] : List Int)) (inner := [.int .i64 0, .int .i64 1, .int .i64 2147483648, .int .i64 (-2147483648), .int .i64 500]) (ok := fun _ => True) (okp := fun _ => True) ?hr ?hp (fun _ hk => hk) trivial (Below.refl _ _) (Nat.le_refl _) (by simp) ?_; (case hd => rfl); (case hg => rfl); (case hr => exact g10); (case hp => exact (Reps.one (show Kd.M (Kd.int .i64) _ _ _ 0 [.int .i64 0] from rfl) (Reps.one (show Kd.M (Kd.int .i64) _ _ _ 1 [.int .i64 1] from rfl) (Reps.one (show Kd.M (Kd.int .i64) _ _ _ 2147483648 [.int .i64 2147483648] from rfl) (Reps.one (show Kd.M (Kd.int .i64) _ _ _ (-2147483648) [.int .i64 (-2147483648)] from rfl) (Reps.one (show Kd.M (Kd.int .i64) _ _ _ 500 [.int .i64 500] from rfl) (Reps.none _ _)))))))
  intro v305 w40 ho41 hb hg_ hnew_
  clear hg_ hnew_
  (first | rw [← Ny304.out] at ho41 | (simp only [Int.reduceToNat] at ho41; rw [← Ny304.out] at ho41))
  have n_ := spec_l17Bent.K7_ (Kd.R_below (g1 HO287.out) hb) (Kd.R_lower ho41 (keep_size (w := w) (g := g) (row := none) (g44 HK.out GW281.out GW290.out))) (IsS105.below (g42 HI0.out NB0_281.out NB0_290.out) hb) (blk_below (g := gb281) (o := .cells #[.slice none 0 0] 68 (0, 0)) (g2 BK281.out) hb) (blk_below (g := gb290) (o := .cells #[.slice Ao11 t285.length co11] 68 (0, 0)) (g2 BK290.out) hb) (KeepBut.trans (g44 HK.out GW281.out GW290.out) (KeepBut.of_below hb g none) (.inl rfl)) (below_step (g43 HB.out HI0.out GE281.out GE290.out) hb)
  clear HO287 HI0 BK281 BK290 HK HB
  obtain ⟨HO287, HO306, HI0, BK281, BK290, HK, HB⟩ := n_
  clear hb ho41
  obtain ⟨Ao42, co42, eo42⟩ := Kd.R_slice HO306.out
  (first | subst eo42 | (injection eo42 with f1_ f2_ f3_; have f4_ := f1_.symm; have f5_ := f3_.symm; clear f1_ f2_ f3_; subst f4_; subst f5_))
  refine hK.out _ _ ((blk_cell BK290.out 0).trans rfl) (fun hHeld => ?_)
  clear hK K
  refine norm_ (a' := ?_) ?_ ?_
  rotate_left
  ·show Act.put _ (some 33) _ = _
   simp only [Act.put, List.setIfInBounds_toArray, List.set_cons_zero, List.set_cons_succ, i64_w, i32_w]
   rfl
  refine one_ (i := 5) (N := some 34) spec_l17Bent.b6_ rfl rfl (one_of HT_.out (by kernel_rfl)) (by decide) (fun K hK => ?_)
  refine goes_ Try.func47 (by kernel_rfl) rfl #[.pointer (some ⟨g, 0, none⟩), .slice Ao42 y304.length co42] (by rfl) rfl rfl (g9) ?_
  with_reducible refine (spec_l1PickInt.calls g s0_0 t295 t296 _ _ y304 t307 t308 t309 w0 _ ?side1 ?side2 ?side3 ?side4 ?side5 A35.out).mono ?_
  (case side1 => exact g42 HI0.out NB0_281.out NB0_290.out)
  (case side2 => exact g43 HB.out HI0.out GE281.out GE290.out)
  (case side3 => exact g26 HO306.out)
  (case side4 => exact (Kd.R_reads' HO306.out).2.1)
  (case side5 => exact g50 HI0.out HO306.out)
  rintro e w43 ⟨rfl, hi, hb, hk⟩
  refine ⟨_, rfl, ?_⟩
  have n_ := spec_l17Bent.K7_ (KeepBut.blk hk (g' := gb281) (o := .cells #[.slice none 0 0] 68 (0, 0)) (g2 BK281.out) NB281_0.out (by simp)) (Kd.R_mono (Kd.R_keep (IsS105.apart (show IsS105 w0 _ g s0_0 t295 t296 from by repeat (first | (with_reducible first | exact HI0.out | apply IsS105.alloc | apply IsS105.drewN | apply IsS105.drew | apply IsS105.set_1 | apply IsS105.set_2 | refine IsS105.far ?_ NB0_281.out _ | refine IsS105.far ?_ NB0_290.out _) | exact HI0.out)) (g1 HO287.out) (by decide)) hk (fun _ h => h.2)) (fun _ h => h.1)) (KeepBut.blk hk (g' := gb290) (o := .cells #[.slice Ao11 t285.length co11] 68 (0, 0)) (g2 BK290.out) NB290_0.out (by simp)) (Kd.R_mono (Kd.R_keep (IsS105.apart (show IsS105 w0 _ g s0_0 t295 t296 from by repeat (first | (with_reducible first | exact HI0.out | apply IsS105.alloc | apply IsS105.drewN | apply IsS105.drew | apply IsS105.set_1 | apply IsS105.set_2 | refine IsS105.far ?_ NB0_281.out _ | refine IsS105.far ?_ NB0_290.out _) | exact HI0.out)) (g1 HO306.out) (by decide)) hk (fun _ h => h.2)) (fun _ h => h.1)) (KeepBut.trans (g44 HK.out GW281.out GW290.out) hk (.inl rfl)) hb hi
  clear BK281 HO287 BK290 HO306 HK HB HI0
  obtain ⟨BK281, HO287, BK290, HO306, HK, HB, HI0⟩ := n_
  (try clear hb)
  (try clear hb2)
  (try clear hk)
  (try clear hi)
  have p38 : 0 ≤ (t291 : Int) := of_decide_eq_true (g6)
  have q38 : (t291 : Int) < ((t285.length : Int) : Int) := of_decide_eq_true (g6)
  obtain ⟨go38, co38, eo38, gb38, gl38, cl38, HG38⟩ := Kd.R_form HO287.out (by omega)
  (first | cases eo38 | (injection eo38 with ea_ en_ ec_; (first | subst ea_ | (injection ea_ with ea_; subst ea_)); subst ec_; clear en_))
  have GB38 := Aside0.mk gb38
  have GG38 := Aside0.mk HG38
  clear gb38 gl38 HG38
  obtain ⟨ce38, hcl38, hM38, hcc38, hfr38⟩ := Kd.R_elem HO287.out z93 (t291 : Int) p38 q38
  obtain rfl := k93_openM hM38
  have hx38_0 : World.cell? _ ⟨go38, (t291 : Int).toNat * 5, none⟩ = some (.int .i64 ((rd_T93 t285 t291).f0)) := hcc38 0 _ rfl
  have hx38_1 : World.cell? _ ⟨go38, (t291 : Int).toNat * 5 + 1, none⟩ = some (.int .i64 ((rd_T93 t285 t291).f1)) := hcc38 1 _ rfl
  have hx38_2 : World.cell? _ ⟨go38, (t291 : Int).toNat * 5 + 2, none⟩ = some (.int .i64 ((rd_T93 t285 t291).f2)) := hcc38 2 _ rfl
  have hx38_3 : World.cell? _ ⟨go38, (t291 : Int).toNat * 5 + 3, none⟩ = some (.int .i64 ((rd_T93 t285 t291).f3)) := hcc38 3 _ rfl
  have hx38_4 : World.cell? _ ⟨go38, (t291 : Int).toNat * 5 + 4, none⟩ = some (.int .i64 ((rd_T93 t285 t291).f4)) := hcc38 4 _ rfl
  have hf38_0 : World.frozen? _ ⟨go38, (t291 : Int).toNat * 5, none⟩ = false := hfr38 0
  have hf38_1 : World.frozen? _ ⟨go38, (t291 : Int).toNat * 5 + 1, none⟩ = false := hfr38 1
  have hf38_2 : World.frozen? _ ⟨go38, (t291 : Int).toNat * 5 + 2, none⟩ = false := hfr38 2
  have hf38_3 : World.frozen? _ ⟨go38, (t291 : Int).toNat * 5 + 3, none⟩ = false := hfr38 3
  have hf38_4 : World.frozen? _ ⟨go38, (t291 : Int).toNat * 5 + 4, none⟩ = false := hfr38 4
  clear hcl38 hcc38 hfr38; (try clear hM38)
  replace p38 := eq_true p38
  replace q38 := eq_true q38
  have HN0_go38 := Aside0.mk (show g ≠ go38 from by have h_ := IsS105.own_ne HI0.out HO287.out (by decide); intro e_; exact h_ (by rw [e_]; rfl))
  obtain ⟨ce44, hcl44, hM44, hcc44, hfr44⟩ := Kd.R_elem HO287.out z93 (t291 : Int) (of_decide_eq_true (g6)) spec_l17Bent.z0
  obtain rfl := k93_openM hM44
  have HP44 := (Kd.R_seg HO287.out (t291 : Int) (of_decide_eq_true (g6)) spec_l17Bent.z0 (seg := [.int .i64 t307]) (j := 1) hcl44 hcc44 (show 2 ≤ 5 from by decide) (x' := (⟨(rd_T93 t285 t291).f0, t307, (rd_T93 t285 t291).f2, (rd_T93 t285 t291).f3, (rd_T93 t285 t291).f4⟩ : S93)) (k93_mkM _ _ _ (⟨(rd_T93 t285 t291).f0, t307, (rd_T93 t285 t291).f2, (rd_T93 t285 t291).f3, (rd_T93 t285 t291).f4⟩ : S93) ) (fun _ hk => hk)).1
  rw [← Ny310.out] at HP44
  have HQ44 := Aside0.mk HP44
  clear hcl44 hcc44 hfr44 HP44; (try clear hM44)
  refine hK.out _ _ ((blk_cell BK290.out 0).trans rfl) (fun hHeld => ?_)
  clear hK K
  refine norm_ (a' := ?_) ?_ ?_
  rotate_left
  ·show Act.put _ (some 34) _ = _
   simp only [Act.put, List.setIfInBounds_toArray, List.set_cons_zero, List.set_cons_succ, i64_w, i32_w]
   rfl
  refine pure_ (i := 6) (N := some 35) (v := ?_) (a' := ?_) spec_l17Bent.b7_ rfl rfl (any_of HT_.out (by kernel_rfl)) (fun _ _ _ h => h) (Or.inl ⟨by rfl, ?_⟩) ?_ ?_
  rotate_left
  ·intro w'
   go_simp
   with_reducible rfl
  rotate_left
  ·exact ga0
  refine pure_ (i := 7) (N := some 36) (v := ?_) (a' := ?_) spec_l17Bent.b8_ rfl rfl (any_of HT_.out (by kernel_rfl)) (fun _ _ _ h => h) (Or.inl ⟨by rfl, ?_⟩) ?_ ?_
  rotate_left
  ·intro w'
   go_simp
   with_reducible rfl
  rotate_left
  ·exact ga0
  refine last_ (i := 8) (N := none) spec_l17Bent.b9_ rfl rfl (one_of HT_.out (by kernel_rfl)) (by decide) (fun K hK => ?_)
  refine skip_ (w1 := ?_) (by rfl) rfl ?_ ?_
  rotate_left
  ·go_simp
   rfl
  refine hK.out _ _ ?_
  clear hK K
  refine done_ (done_of HT_.out (by kernel_rfl)) ?_
  have n0_ : Aside0 (Kd.R k93 93 (w43.setCell ⟨go38, (t291 : Int).toNat * 5 + 1, none⟩ (.int .i64 t307)) w.heap.size (fun _ => True) (.slice (some ⟨go38, 0, none⟩) t285.length co11) y310) := ⟨g1 HQ44.out⟩
  have n1_ : Aside0 (Kd.R (Kd.int .i64) 3 (w43.setCell ⟨go38, (t291 : Int).toNat * 5 + 1, none⟩ (.int .i64 t307)) w.heap.size (fun _ => True) (.slice Ao42 y304.length co42) y304) := ⟨by (with_reducible repeat (first | apply Kd.R_alloc | apply Kd.R_drewN | apply Kd.R_drew)); exact Kd.R_mono (Kd.R_far (p := ⟨go38, (t291 : Int).toNat * 5 + 1, none⟩) (Kd.R_types HO306.out GG38.out (by decide)) (fun _ hk => hk.2) (.int .i64 t307)) (fun _ hk => trivial)⟩
  have n2_ : Aside0 ((w43.setCell ⟨go38, (t291 : Int).toNat * 5 + 1, none⟩ (.int .i64 t307)).heap[gb281]? = some (.cells #[.slice none 0 0] 68 (0, 0))) := ⟨by (with_reducible repeat (first | refine blk_drewN ?_ _ | refine blk_drew ?_ | refine blk_alloc ?_ _)); refine blk_far ?_ spec_l17Bent.z1 _; (with_reducible repeat (first | refine blk_drewN ?_ _ | refine blk_drew ?_ | refine blk_alloc ?_ _)); exact BK281.out⟩
  have n3_ : Aside0 ((w43.setCell ⟨go38, (t291 : Int).toNat * 5 + 1, none⟩ (.int .i64 t307)).heap[gb290]? = some (.cells #[.slice (some ⟨go38, 0, none⟩) t285.length co11] 68 (0, 0))) := ⟨by (with_reducible repeat (first | refine blk_drewN ?_ _ | refine blk_drew ?_ | refine blk_alloc ?_ _)); refine blk_far ?_ spec_l17Bent.z2 _; (with_reducible repeat (first | refine blk_drewN ?_ _ | refine blk_drew ?_ | refine blk_alloc ?_ _)); exact BK290.out⟩
  have n4_ : Aside0 (IsS105 w0 (w43.setCell ⟨go38, (t291 : Int).toNat * 5 + 1, none⟩ (.int .i64 t307)) g s0_0 t308 t309) := ⟨g46 HI0.out HN0_go38.out NB0_281.out NB0_290.out⟩
  have n5_ : Aside0 (KeepBut w (w43.setCell ⟨go38, (t291 : Int).toNat * 5 + 1, none⟩ (.int .i64 t307)) g none) := ⟨g47 HK.out GB38.out GW281.out GW290.out⟩
  have n6_ : Aside0 (Below w0.heap.size w0 (w43.setCell ⟨go38, (t291 : Int).toNat * 5 + 1, none⟩ (.int .i64 t307))) := ⟨g51 HB.out HL.out GB38.out HI0.out GE281.out GE290.out⟩
  (try clear HO287)
  (try clear HO306)
  (try clear BK281)
  (try clear BK290)
  (try clear HI0)
  (try clear HK)
  (try clear HB)
  generalize (w43.setCell ⟨go38, (t291 : Int).toNat * 5 + 1, none⟩ (.int .i64 t307)) = w45 at n0_ n1_ n2_ n3_ n4_ n5_ n6_ ⊢
  have HO287 := n0_
  have HO306 := n1_
  have BK281 := n2_
  have BK290 := n3_
  have HI0 := n4_
  have HK := n5_
  have HB := n6_
  clear n0_ n1_ n2_ n3_ n4_ n5_ n6_
  have hnb46 := NB290_281.out
  have hnc46 := NB281_290.out
  have hnb47 := NB290_0.out
  have hnc47 := NB0_290.out
  have hcz48_0 : w45.cell? ⟨gb290, 0, none⟩ = some (.slice (some ⟨go38, 0, none⟩) t285.length co11) := (blk_cell BK290.out 0).trans rfl
  have hfz48_0 := blk_frozen BK290.out 0
  have hnb49 := NB281_0.out
  have hnc49 := NB0_281.out
  have hcz50_0 : w45.cell? ⟨gb281, 0, none⟩ = some (.slice none 0 0) := (blk_cell BK281.out 0).trans rfl
  have hfz50_0 := blk_frozen BK281.out 0
  try go_wp2
  refine bodyPost_ret (results_cell_row rfl _ _ gb281 68 #[.slice (some ⟨go38, 0, none⟩) t285.length co11] (0, 0) _ rfl spec_l17Bent.z3 Try.underlying68 rfl (by kernel_rfl)) rfl ?_
  exact ⟨_, g5, by (with_reducible repeat (first | apply Kd.R_alloc | apply Kd.R_drewN | apply Kd.R_drew)); exact Kd.R_mono (Kd.R_far (p := ⟨gb281, 0, none⟩) (Kd.R_types HO287.out BK281.out (by decide)) (fun _ hk => hk.2) (.slice (some ⟨go38, 0, none⟩) t285.length co11)) (fun _ hk => trivial), g42 HI0.out NB0_281.out NB0_290.out, g43 HB.out HI0.out GE281.out GE290.out, g44 HK.out GW281.out GW290.out⟩
 rw [if_neg c34] at H
 have c34b0 : (t294 == 1) = false := beq_eq_false_iff_ne.mpr c34
 have c34b1 : (t294 != 1) = true := bne_iff_ne.mpr c34
 by_cases c51 : t294 = 2
 case pos =>
  rw [if_pos c51] at H
  have c51b0 : (t294 == 2) = true := beq_iff_eq.mpr c51
  have c51b1 : (t294 != 2) = false := bne_eq_false_iff_eq.mpr c51
  clear c51
  obtain ⟨y311, hy311⟩ : ∃ y_ : List Int, y_ = (([0, 1, 2, (-1), 40, t291] : List Int)) := ⟨_, rfl⟩
  replace H : ((spec_l1PickInt.f s0_0 t295 t296 y311).bind fun bt314 => (if 0 ≤ t291 then (if t291 < (t285.length : Int) then (some ((t285.set (t291 : Int).toNat (⟨(rd_T93 t285 t291).f0, (rd_T93 t285 t291).f1, bt314.1, (rd_T93 t285 t291).f3, (rd_T93 t285 t291).f4⟩ : S93)), bt314.2.1, bt314.2.2)) else (none)) else (none))) = some (r1, r2, r3) := by first | (rw [hy311]; with_reducible exact H) | (have H2_ := (Option.bind_some _ _).symm.trans H; rw [hy311]; with_reducible exact H2_) | (have H2_ := (Option.bind_some _ _).symm.trans H; with_reducible exact H2_) | with_reducible exact H | (rw [hy311]; exact H) | exact H
  have Ny311 := Aside0.mk hy311
  clear hy311
  replace H := Option.bind_eq_some_iff.mp H
  obtain ⟨⟨t314, t315, t316⟩, A520, H⟩ := H
  replace H : (if 0 ≤ t291 then (if t291 < (t285.length : Int) then (some ((t285.set (t291 : Int).toNat (⟨(rd_T93 t285 t291).f0, (rd_T93 t285 t291).f1, t314, (rd_T93 t285 t291).f3, (rd_T93 t285 t291).f4⟩ : S93)), t315, t316)) else (none)) else (none)) = some (r1, r2, r3) := H
  have A52 := Aside0.mk A520
  clear A520
  by_cases c53 : 0 ≤ t291
  case neg =>
   rw [if_neg c53] at H
   exact absurd H (by simp)
  rw [if_pos c53] at H
  have c53b0 : decide (0 ≤ t291) = true := decide_eq_true c53
  clear c53
  by_cases c54 : t291 < (t285.length : Int)
  case neg =>
   rw [if_neg c54] at H
   exact absurd H (by simp)
  rw [if_pos c54] at H
  have c54b0 : decide (t291 < (t285.length : Int)) = true := decide_eq_true c54
  clear c54
  obtain ⟨y317, hy317⟩ : ∃ y_ : List (S93), y_ = (t285.set (t291 : Int).toNat (⟨(rd_T93 t285 t291).f0, (rd_T93 t285 t291).f1, t314, (rd_T93 t285 t291).f3, (rd_T93 t285 t291).f4⟩ : S93)) := ⟨_, rfl⟩
  replace H : (some (y317, t315, t316)) = some (r1, r2, r3) := by first | (rw [hy317]; with_reducible exact H) | (have H2_ := (Option.bind_some _ _).symm.trans H; rw [hy317]; with_reducible exact H2_) | (have H2_ := (Option.bind_some _ _).symm.trans H; with_reducible exact H2_) | with_reducible exact H | (rw [hy317]; exact H) | exact H
  have Ny317 := Aside0.mk hy317
  clear hy317
  simp only [Option.some.injEq, Prod.mk.injEq] at H
  obtain ⟨rfl, rfl, rfl⟩ := H
  try go_wp2
  have n_ := spec_l17Bent.K6_ (Kd.R_drew HO287.out) (blk_drew BK281.out) (blk_drew BK290.out) (IsS105.drew HI0.out) (keep_drew HK.out) (below_drew1 HB.out)
  clear HO287 BK281 BK290 HI0 HK HB
  obtain ⟨HO287, BK281, BK290, HI0, HK, HB⟩ := n_
  refine start_ (n := 10) (S := fun w' => w'.cell? ⟨gb290, 0, none⟩ = some (.slice Ao11 t285.length co11)) (ds := [9]) spec_l17Bent.b10_ (by kernel_rfl) rfl rfl ((blk_cell BK290.out 0).trans rfl) (fun hHeld => ?_); refine with_tabW spec_l17Bent.tab9 spec_l17Bent.bits9 (fun HT_ HW_ => ?_)
  generalize w16.drew = w56 at HO287 BK281 BK290 HI0 HK HB hHeld ⊢
  refine pure_ (i := 0) (N := some 39) (v := ?_) (a' := ?_) spec_l17Bent.b11_ rfl rfl (any_of HT_.out (by kernel_rfl)) (fun _ _ _ h => h) (Or.inl ⟨by rfl, ?_⟩) ?_ ?_
  rotate_left
  ·intro w'
   go_simp
   with_reducible rfl
  rotate_left
  ·exact ga0
  refine pure_ (i := 2) (N := some 41) (v := ?_) (a' := ?_) spec_l17Bent.b12_ rfl rfl (any_of HT_.out (by kernel_rfl)) (fun _ _ _ h => h) (Or.inl ⟨by rfl, ?_⟩) ?_ ?_
  rotate_left
  ·intro w'
   go_simp
   with_reducible rfl
  rotate_left
  ·exact ga0
  refine pure_ (i := 3) (N := some 42) (v := ?_) (a' := ?_) spec_l17Bent.b13_ rfl rfl (any_of HT_.out (by kernel_rfl)) (fun _ _ _ h => h) (Or.inl ⟨by rfl, ?_⟩) ?_ ?_
  rotate_left
  ·intro w'
   go_simp
   with_reducible rfl
  rotate_left
  ·exact ga0
  refine pure_ (i := 4) (N := some 43) (v := ?_) (a' := ?_) spec_l17Bent.b14_ rfl rfl (any_of HT_.out (by kernel_rfl)) (fun _ _ _ h => h) (Or.inl ⟨by rfl, ?_⟩) ?_ ?_
  rotate_left
  ·intro w'
   go_simp
   with_reducible rfl
  rotate_left
  ·exact ga0
  refine take_ (i := 1) (N := some 40) (v := ?_) (a' := ?_) spec_l17Bent.b15_ rfl rfl (take_ofW HT_.out HW_.out (by kernel_rfl)) (fun _ _ _ h => h) (Or.inl ⟨by rfl, ?_⟩) hHeld ?_ ?_
  rotate_left
  ·intro w' s0
   go_simp
   with_reducible rfl
  rotate_left
  ·exact ga0
  refine one_ (i := 5) (N := some 44) spec_l17Bent.b16_ rfl rfl (one_of HT_.out (by kernel_rfl)) (by decide) (fun K hK => ?_)
  refine Kd.R_lit_step (Kd.int .i64) _ 3 ?hg (N := 44) ?hd (xs := ([0, 1, 2, (-1), 40, t291] : List Int)) (inner := [.int .i64 0, .int .i64 1, .int .i64 2, .int .i64 (-1), .int .i64 40, .int .i64 t291]) (ok := fun _ => True) (okp := fun _ => True) ?hr ?hp (fun _ hk => hk) trivial (Below.refl _ _) (Nat.le_refl _) (by simp) ?_; (case hd => rfl); (case hg => rfl); (case hr => exact g10); (case hp => exact (Reps.one (show Kd.M (Kd.int .i64) _ _ _ 0 [.int .i64 0] from rfl) (Reps.one (show Kd.M (Kd.int .i64) _ _ _ 1 [.int .i64 1] from rfl) (Reps.one (show Kd.M (Kd.int .i64) _ _ _ 2 [.int .i64 2] from rfl) (Reps.one (show Kd.M (Kd.int .i64) _ _ _ (-1) [.int .i64 (-1)] from rfl) (Reps.one (show Kd.M (Kd.int .i64) _ _ _ 40 [.int .i64 40] from rfl) (Reps.one (show Kd.M (Kd.int .i64) _ _ _ t291 [.int .i64 t291] from rfl) (Reps.none _ _))))))))
  intro v312 w57 ho58 hb hg_ hnew_
  clear hg_ hnew_
  (first | rw [← Ny311.out] at ho58 | (simp only [Int.reduceToNat] at ho58; rw [← Ny311.out] at ho58))
  have n_ := spec_l17Bent.K7_ (Kd.R_below (g1 HO287.out) hb) (Kd.R_lower ho58 (keep_size (w := w) (g := g) (row := none) (g44 HK.out GW281.out GW290.out))) (IsS105.below (g42 HI0.out NB0_281.out NB0_290.out) hb) (blk_below (g := gb281) (o := .cells #[.slice none 0 0] 68 (0, 0)) (g2 BK281.out) hb) (blk_below (g := gb290) (o := .cells #[.slice Ao11 t285.length co11] 68 (0, 0)) (g2 BK290.out) hb) (KeepBut.trans (g44 HK.out GW281.out GW290.out) (KeepBut.of_below hb g none) (.inl rfl)) (below_step (g43 HB.out HI0.out GE281.out GE290.out) hb)
  clear HO287 HI0 BK281 BK290 HK HB
  obtain ⟨HO287, HO313, HI0, BK281, BK290, HK, HB⟩ := n_
  clear hb ho58
  obtain ⟨Ao59, co59, eo59⟩ := Kd.R_slice HO313.out
  (first | subst eo59 | (injection eo59 with f1_ f2_ f3_; have f4_ := f1_.symm; have f5_ := f3_.symm; clear f1_ f2_ f3_; subst f4_; subst f5_))
  refine hK.out _ _ ((blk_cell BK290.out 0).trans rfl) (fun hHeld => ?_)
  clear hK K
  refine norm_ (a' := ?_) ?_ ?_
  rotate_left
  ·show Act.put _ (some 44) _ = _
   simp only [Act.put, List.setIfInBounds_toArray, List.set_cons_zero, List.set_cons_succ, i64_w, i32_w]
   rfl
  refine one_ (i := 6) (N := some 45) spec_l17Bent.b17_ rfl rfl (one_of HT_.out (by kernel_rfl)) (by decide) (fun K hK => ?_)
  refine goes_ Try.func47 (by kernel_rfl) rfl #[.pointer (some ⟨g, 0, none⟩), .slice Ao59 y311.length co59] (by rfl) rfl rfl (g9) ?_
  with_reducible refine (spec_l1PickInt.calls g s0_0 t295 t296 _ _ y311 t314 t315 t316 w0 _ ?side1 ?side2 ?side3 ?side4 ?side5 A52.out).mono ?_
  (case side1 => exact g42 HI0.out NB0_281.out NB0_290.out)
  (case side2 => exact g43 HB.out HI0.out GE281.out GE290.out)
  (case side3 => exact g26 HO313.out)
  (case side4 => exact (Kd.R_reads' HO313.out).2.1)
  (case side5 => exact g50 HI0.out HO313.out)
  rintro e w60 ⟨rfl, hi, hb, hk⟩
  refine ⟨_, rfl, ?_⟩
  have n_ := spec_l17Bent.K7_ (KeepBut.blk hk (g' := gb281) (o := .cells #[.slice none 0 0] 68 (0, 0)) (g2 BK281.out) NB281_0.out (by simp)) (Kd.R_mono (Kd.R_keep (IsS105.apart (show IsS105 w0 _ g s0_0 t295 t296 from by repeat (first | (with_reducible first | exact HI0.out | apply IsS105.alloc | apply IsS105.drewN | apply IsS105.drew | apply IsS105.set_1 | apply IsS105.set_2 | refine IsS105.far ?_ NB0_281.out _ | refine IsS105.far ?_ NB0_290.out _) | exact HI0.out)) (g1 HO287.out) (by decide)) hk (fun _ h => h.2)) (fun _ h => h.1)) (KeepBut.blk hk (g' := gb290) (o := .cells #[.slice Ao11 t285.length co11] 68 (0, 0)) (g2 BK290.out) NB290_0.out (by simp)) (Kd.R_mono (Kd.R_keep (IsS105.apart (show IsS105 w0 _ g s0_0 t295 t296 from by repeat (first | (with_reducible first | exact HI0.out | apply IsS105.alloc | apply IsS105.drewN | apply IsS105.drew | apply IsS105.set_1 | apply IsS105.set_2 | refine IsS105.far ?_ NB0_281.out _ | refine IsS105.far ?_ NB0_290.out _) | exact HI0.out)) (g1 HO313.out) (by decide)) hk (fun _ h => h.2)) (fun _ h => h.1)) (KeepBut.trans (g44 HK.out GW281.out GW290.out) hk (.inl rfl)) hb hi
  clear BK281 HO287 BK290 HO313 HK HB HI0
  obtain ⟨BK281, HO287, BK290, HO313, HK, HB, HI0⟩ := n_
  (try clear hb)
  (try clear hb2)
  (try clear hk)
  (try clear hi)
  have p55 : 0 ≤ (t291 : Int) := of_decide_eq_true (g6)
  have q55 : (t291 : Int) < ((t285.length : Int) : Int) := of_decide_eq_true (g6)
  obtain ⟨go55, co55, eo55, gb55, gl55, cl55, HG55⟩ := Kd.R_form HO287.out (by omega)
  (first | cases eo55 | (injection eo55 with ea_ en_ ec_; (first | subst ea_ | (injection ea_ with ea_; subst ea_)); subst ec_; clear en_))
  have GB55 := Aside0.mk gb55
  have GG55 := Aside0.mk HG55
  clear gb55 gl55 HG55
  obtain ⟨ce55, hcl55, hM55, hcc55, hfr55⟩ := Kd.R_elem HO287.out z93 (t291 : Int) p55 q55
  obtain rfl := k93_openM hM55
  have hx55_0 : World.cell? _ ⟨go55, (t291 : Int).toNat * 5, none⟩ = some (.int .i64 ((rd_T93 t285 t291).f0)) := hcc55 0 _ rfl
  have hx55_1 : World.cell? _ ⟨go55, (t291 : Int).toNat * 5 + 1, none⟩ = some (.int .i64 ((rd_T93 t285 t291).f1)) := hcc55 1 _ rfl
  have hx55_2 : World.cell? _ ⟨go55, (t291 : Int).toNat * 5 + 2, none⟩ = some (.int .i64 ((rd_T93 t285 t291).f2)) := hcc55 2 _ rfl
  have hx55_3 : World.cell? _ ⟨go55, (t291 : Int).toNat * 5 + 3, none⟩ = some (.int .i64 ((rd_T93 t285 t291).f3)) := hcc55 3 _ rfl
  have hx55_4 : World.cell? _ ⟨go55, (t291 : Int).toNat * 5 + 4, none⟩ = some (.int .i64 ((rd_T93 t285 t291).f4)) := hcc55 4 _ rfl
  have hf55_0 : World.frozen? _ ⟨go55, (t291 : Int).toNat * 5, none⟩ = false := hfr55 0
  have hf55_1 : World.frozen? _ ⟨go55, (t291 : Int).toNat * 5 + 1, none⟩ = false := hfr55 1
  have hf55_2 : World.frozen? _ ⟨go55, (t291 : Int).toNat * 5 + 2, none⟩ = false := hfr55 2
  have hf55_3 : World.frozen? _ ⟨go55, (t291 : Int).toNat * 5 + 3, none⟩ = false := hfr55 3
  have hf55_4 : World.frozen? _ ⟨go55, (t291 : Int).toNat * 5 + 4, none⟩ = false := hfr55 4
  clear hcl55 hcc55 hfr55; (try clear hM55)
  replace p55 := eq_true p55
  replace q55 := eq_true q55
  have HN0_go55 := Aside0.mk (show g ≠ go55 from by have h_ := IsS105.own_ne HI0.out HO287.out (by decide); intro e_; exact h_ (by rw [e_]; rfl))
  obtain ⟨ce61, hcl61, hM61, hcc61, hfr61⟩ := Kd.R_elem HO287.out z93 (t291 : Int) (of_decide_eq_true (g6)) spec_l17Bent.z0
  obtain rfl := k93_openM hM61
  have HP61 := (Kd.R_seg HO287.out (t291 : Int) (of_decide_eq_true (g6)) spec_l17Bent.z0 (seg := [.int .i64 t314]) (j := 2) hcl61 hcc61 (show 3 ≤ 5 from by decide) (x' := (⟨(rd_T93 t285 t291).f0, (rd_T93 t285 t291).f1, t314, (rd_T93 t285 t291).f3, (rd_T93 t285 t291).f4⟩ : S93)) (k93_mkM _ _ _ (⟨(rd_T93 t285 t291).f0, (rd_T93 t285 t291).f1, t314, (rd_T93 t285 t291).f3, (rd_T93 t285 t291).f4⟩ : S93) ) (fun _ hk => hk)).1
  rw [← Ny317.out] at HP61
  have HQ61 := Aside0.mk HP61
  clear hcl61 hcc61 hfr61 HP61; (try clear hM61)
  refine hK.out _ _ ((blk_cell BK290.out 0).trans rfl) (fun hHeld => ?_)
  clear hK K
  refine norm_ (a' := ?_) ?_ ?_
  rotate_left
  ·show Act.put _ (some 45) _ = _
   simp only [Act.put, List.setIfInBounds_toArray, List.set_cons_zero, List.set_cons_succ, i64_w, i32_w]
   rfl
  refine pure_ (i := 7) (N := some 46) (v := ?_) (a' := ?_) spec_l17Bent.b18_ rfl rfl (any_of HT_.out (by kernel_rfl)) (fun _ _ _ h => h) (Or.inl ⟨by rfl, ?_⟩) ?_ ?_
  rotate_left
  ·intro w'
   go_simp
   with_reducible rfl
  rotate_left
  ·exact ga0
  refine pure_ (i := 8) (N := some 47) (v := ?_) (a' := ?_) spec_l17Bent.b19_ rfl rfl (any_of HT_.out (by kernel_rfl)) (fun _ _ _ h => h) (Or.inl ⟨by rfl, ?_⟩) ?_ ?_
  rotate_left
  ·intro w'
   go_simp
   with_reducible rfl
  rotate_left
  ·exact ga0
  refine last_ (i := 9) (N := none) spec_l17Bent.b20_ rfl rfl (one_of HT_.out (by kernel_rfl)) (by decide) (fun K hK => ?_)
  refine skip_ (w1 := ?_) (by rfl) rfl ?_ ?_
  rotate_left
  ·go_simp
   rfl
  refine hK.out _ _ ?_
  clear hK K
  refine done_ (done_of HT_.out (by kernel_rfl)) ?_
  have n0_ : Aside0 (Kd.R k93 93 (w60.setCell ⟨go55, (t291 : Int).toNat * 5 + 2, none⟩ (.int .i64 t314)) w.heap.size (fun _ => True) (.slice (some ⟨go55, 0, none⟩) t285.length co11) y317) := ⟨g1 HQ61.out⟩
  have n1_ : Aside0 (Kd.R (Kd.int .i64) 3 (w60.setCell ⟨go55, (t291 : Int).toNat * 5 + 2, none⟩ (.int .i64 t314)) w.heap.size (fun _ => True) (.slice Ao59 y311.length co59) y311) := ⟨by (with_reducible repeat (first | apply Kd.R_alloc | apply Kd.R_drewN | apply Kd.R_drew)); exact Kd.R_mono (Kd.R_far (p := ⟨go55, (t291 : Int).toNat * 5 + 2, none⟩) (Kd.R_types HO313.out GG55.out (by decide)) (fun _ hk => hk.2) (.int .i64 t314)) (fun _ hk => trivial)⟩
  have n2_ : Aside0 ((w60.setCell ⟨go55, (t291 : Int).toNat * 5 + 2, none⟩ (.int .i64 t314)).heap[gb281]? = some (.cells #[.slice none 0 0] 68 (0, 0))) := ⟨by (with_reducible repeat (first | refine blk_drewN ?_ _ | refine blk_drew ?_ | refine blk_alloc ?_ _)); refine blk_far ?_ spec_l17Bent.z1 _; (with_reducible repeat (first | refine blk_drewN ?_ _ | refine blk_drew ?_ | refine blk_alloc ?_ _)); exact BK281.out⟩
  have n3_ : Aside0 ((w60.setCell ⟨go55, (t291 : Int).toNat * 5 + 2, none⟩ (.int .i64 t314)).heap[gb290]? = some (.cells #[.slice (some ⟨go55, 0, none⟩) t285.length co11] 68 (0, 0))) := ⟨by (with_reducible repeat (first | refine blk_drewN ?_ _ | refine blk_drew ?_ | refine blk_alloc ?_ _)); refine blk_far ?_ spec_l17Bent.z2 _; (with_reducible repeat (first | refine blk_drewN ?_ _ | refine blk_drew ?_ | refine blk_alloc ?_ _)); exact BK290.out⟩
  have n4_ : Aside0 (IsS105 w0 (w60.setCell ⟨go55, (t291 : Int).toNat * 5 + 2, none⟩ (.int .i64 t314)) g s0_0 t315 t316) := ⟨g46 HI0.out HN0_go55.out NB0_281.out NB0_290.out⟩
  have n5_ : Aside0 (KeepBut w (w60.setCell ⟨go55, (t291 : Int).toNat * 5 + 2, none⟩ (.int .i64 t314)) g none) := ⟨g47 HK.out GB55.out GW281.out GW290.out⟩
  have n6_ : Aside0 (Below w0.heap.size w0 (w60.setCell ⟨go55, (t291 : Int).toNat * 5 + 2, none⟩ (.int .i64 t314))) := ⟨g51 HB.out HL.out GB55.out HI0.out GE281.out GE290.out⟩
  (try clear HO287)
  (try clear HO313)
  (try clear BK281)
  (try clear BK290)
  (try clear HI0)
  (try clear HK)
  (try clear HB)
  generalize (w60.setCell ⟨go55, (t291 : Int).toNat * 5 + 2, none⟩ (.int .i64 t314)) = w62 at n0_ n1_ n2_ n3_ n4_ n5_ n6_ ⊢
  have HO287 := n0_
  have HO313 := n1_
  have BK281 := n2_
  have BK290 := n3_
  have HI0 := n4_
  have HK := n5_
  have HB := n6_
  clear n0_ n1_ n2_ n3_ n4_ n5_ n6_
  have hnb63 := NB290_281.out
  have hnc63 := NB281_290.out
  have hnb64 := NB290_0.out
  have hnc64 := NB0_290.out
  have hcz65_0 : w62.cell? ⟨gb290, 0, none⟩ = some (.slice (some ⟨go55, 0, none⟩) t285.length co11) := (blk_cell BK290.out 0).trans rfl
  have hfz65_0 := blk_frozen BK290.out 0
  have hnb66 := NB281_0.out
  have hnc66 := NB0_281.out
  have hcz67_0 : w62.cell? ⟨gb281, 0, none⟩ = some (.slice none 0 0) := (blk_cell BK281.out 0).trans rfl
  have hfz67_0 := blk_frozen BK281.out 0
  try go_wp2
  refine bodyPost_ret (results_cell_row rfl _ _ gb281 68 #[.slice (some ⟨go55, 0, none⟩) t285.length co11] (0, 0) _ rfl spec_l17Bent.z3 Try.underlying68 rfl (by kernel_rfl)) rfl ?_
  exact ⟨_, g5, by (with_reducible repeat (first | apply Kd.R_alloc | apply Kd.R_drewN | apply Kd.R_drew)); exact Kd.R_mono (Kd.R_far (p := ⟨gb281, 0, none⟩) (Kd.R_types HO287.out BK281.out (by decide)) (fun _ hk => hk.2) (.slice (some ⟨go55, 0, none⟩) t285.length co11)) (fun _ hk => trivial), g42 HI0.out NB0_281.out NB0_290.out, g43 HB.out HI0.out GE281.out GE290.out, g44 HK.out GW281.out GW290.out⟩
 rw [if_neg c51] at H
 have c51b0 : (t294 == 2) = false := beq_eq_false_iff_ne.mpr c51
 have c51b1 : (t294 != 2) = true := bne_iff_ne.mpr c51
 by_cases c68 : t294 = 3
 case pos =>
  rw [if_pos c68] at H
  have c68b0 : (t294 == 3) = true := beq_iff_eq.mpr c68
  have c68b1 : (t294 != 3) = false := bne_eq_false_iff_eq.mpr c68
  clear c68
  obtain ⟨y318, hy318⟩ : ∃ y_ : List Int, y_ = (([0, 1, 2, (-1), 40, t291] : List Int)) := ⟨_, rfl⟩
  replace H : ((spec_l1PickInt.f s0_0 t295 t296 y318).bind fun bt321 => (if 0 ≤ t291 then (if t291 < (t285.length : Int) then (some ((t285.set (t291 : Int).toNat (⟨(rd_T93 t285 t291).f0, (rd_T93 t285 t291).f1, (rd_T93 t285 t291).f2, bt321.1, (rd_T93 t285 t291).f4⟩ : S93)), bt321.2.1, bt321.2.2)) else (none)) else (none))) = some (r1, r2, r3) := by first | (rw [hy318]; with_reducible exact H) | (have H2_ := (Option.bind_some _ _).symm.trans H; rw [hy318]; with_reducible exact H2_) | (have H2_ := (Option.bind_some _ _).symm.trans H; with_reducible exact H2_) | with_reducible exact H | (rw [hy318]; exact H) | exact H
  have Ny318 := Aside0.mk hy318
  clear hy318
  replace H := Option.bind_eq_some_iff.mp H
  obtain ⟨⟨t321, t322, t323⟩, A690, H⟩ := H
  replace H : (if 0 ≤ t291 then (if t291 < (t285.length : Int) then (some ((t285.set (t291 : Int).toNat (⟨(rd_T93 t285 t291).f0, (rd_T93 t285 t291).f1, (rd_T93 t285 t291).f2, t321, (rd_T93 t285 t291).f4⟩ : S93)), t322, t323)) else (none)) else (none)) = some (r1, r2, r3) := H
  have A69 := Aside0.mk A690
  clear A690
  by_cases c70 : 0 ≤ t291
  case neg =>
   rw [if_neg c70] at H
   exact absurd H (by simp)
  rw [if_pos c70] at H
  have c70b0 : decide (0 ≤ t291) = true := decide_eq_true c70
  clear c70
  by_cases c71 : t291 < (t285.length : Int)
  case neg =>
   rw [if_neg c71] at H
   exact absurd H (by simp)
  rw [if_pos c71] at H
  have c71b0 : decide (t291 < (t285.length : Int)) = true := decide_eq_true c71
  clear c71
  obtain ⟨y324, hy324⟩ : ∃ y_ : List (S93), y_ = (t285.set (t291 : Int).toNat (⟨(rd_T93 t285 t291).f0, (rd_T93 t285 t291).f1, (rd_T93 t285 t291).f2, t321, (rd_T93 t285 t291).f4⟩ : S93)) := ⟨_, rfl⟩
  replace H : (some (y324, t322, t323)) = some (r1, r2, r3) := by first | (rw [hy324]; with_reducible exact H) | (have H2_ := (Option.bind_some _ _).symm.trans H; rw [hy324]; with_reducible exact H2_) | (have H2_ := (Option.bind_some _ _).symm.trans H; with_reducible exact H2_) | with_reducible exact H | (rw [hy324]; exact H) | exact H
  have Ny324 := Aside0.mk hy324
  clear hy324
  simp only [Option.some.injEq, Prod.mk.injEq] at H
  obtain ⟨rfl, rfl, rfl⟩ := H
  try go_wp2
  have n_ := spec_l17Bent.K6_ (Kd.R_drew HO287.out) (blk_drew BK281.out) (blk_drew BK290.out) (IsS105.drew HI0.out) (keep_drew HK.out) (below_drew1 HB.out)
  clear HO287 BK281 BK290 HI0 HK HB
  obtain ⟨HO287, BK281, BK290, HI0, HK, HB⟩ := n_
  refine start_ (n := 10) (S := fun w' => w'.cell? ⟨gb290, 0, none⟩ = some (.slice Ao11 t285.length co11)) (ds := [9]) spec_l17Bent.b10_ (by kernel_rfl) rfl rfl ((blk_cell BK290.out 0).trans rfl) (fun hHeld => ?_); refine with_tabW spec_l17Bent.tab11 spec_l17Bent.bits11 (fun HT_ HW_ => ?_)
  generalize w16.drew = w73 at HO287 BK281 BK290 HI0 HK HB hHeld ⊢
  refine pure_ (i := 0) (N := some 50) (v := ?_) (a' := ?_) spec_l17Bent.b11_ rfl rfl (any_of HT_.out (by kernel_rfl)) (fun _ _ _ h => h) (Or.inl ⟨by rfl, ?_⟩) ?_ ?_
  rotate_left
  ·intro w'
   go_simp
   with_reducible rfl
  rotate_left
  ·exact ga0
  refine pure_ (i := 2) (N := some 52) (v := ?_) (a' := ?_) spec_l17Bent.b12_ rfl rfl (any_of HT_.out (by kernel_rfl)) (fun _ _ _ h => h) (Or.inl ⟨by rfl, ?_⟩) ?_ ?_
  rotate_left
  ·intro w'
   go_simp
   with_reducible rfl
  rotate_left
  ·exact ga0
  refine pure_ (i := 3) (N := some 53) (v := ?_) (a' := ?_) spec_l17Bent.b13_ rfl rfl (any_of HT_.out (by kernel_rfl)) (fun _ _ _ h => h) (Or.inl ⟨by rfl, ?_⟩) ?_ ?_
  rotate_left
  ·intro w'
   go_simp
   with_reducible rfl
  rotate_left
  ·exact ga0
  refine pure_ (i := 4) (N := some 54) (v := ?_) (a' := ?_) spec_l17Bent.b14_ rfl rfl (any_of HT_.out (by kernel_rfl)) (fun _ _ _ h => h) (Or.inl ⟨by rfl, ?_⟩) ?_ ?_
  rotate_left
  ·intro w'
   go_simp
   with_reducible rfl
  rotate_left
  ·exact ga0
  refine take_ (i := 1) (N := some 51) (v := ?_) (a' := ?_) spec_l17Bent.b15_ rfl rfl (take_ofW HT_.out HW_.out (by kernel_rfl)) (fun _ _ _ h => h) (Or.inl ⟨by rfl, ?_⟩) hHeld ?_ ?_
  rotate_left
  ·intro w' s0
   go_simp
   with_reducible rfl
  rotate_left
  ·exact ga0
  refine one_ (i := 5) (N := some 55) spec_l17Bent.b16_ rfl rfl (one_of HT_.out (by kernel_rfl)) (by decide) (fun K hK => ?_)
  refine Kd.R_lit_step (Kd.int .i64) _ 3 ?hg (N := 55) ?hd (xs := ([0, 1, 2, (-1), 40, t291] : List Int)) (inner := [.int .i64 0, .int .i64 1, .int .i64 2, .int .i64 (-1), .int .i64 40, .int .i64 t291]) (ok := fun _ => True) (okp := fun _ => True) ?hr ?hp (fun _ hk => hk) trivial (Below.refl _ _) (Nat.le_refl _) (by simp) ?_; (case hd => rfl); (case hg => rfl); (case hr => exact g10); (case hp => exact (Reps.one (show Kd.M (Kd.int .i64) _ _ _ 0 [.int .i64 0] from rfl) (Reps.one (show Kd.M (Kd.int .i64) _ _ _ 1 [.int .i64 1] from rfl) (Reps.one (show Kd.M (Kd.int .i64) _ _ _ 2 [.int .i64 2] from rfl) (Reps.one (show Kd.M (Kd.int .i64) _ _ _ (-1) [.int .i64 (-1)] from rfl) (Reps.one (show Kd.M (Kd.int .i64) _ _ _ 40 [.int .i64 40] from rfl) (Reps.one (show Kd.M (Kd.int .i64) _ _ _ t291 [.int .i64 t291] from rfl) (Reps.none _ _))))))))
  intro v319 w74 ho75 hb hg_ hnew_
  clear hg_ hnew_
  (first | rw [← Ny318.out] at ho75 | (simp only [Int.reduceToNat] at ho75; rw [← Ny318.out] at ho75))
  have n_ := spec_l17Bent.K7_ (Kd.R_below (g1 HO287.out) hb) (Kd.R_lower ho75 (keep_size (w := w) (g := g) (row := none) (g44 HK.out GW281.out GW290.out))) (IsS105.below (g42 HI0.out NB0_281.out NB0_290.out) hb) (blk_below (g := gb281) (o := .cells #[.slice none 0 0] 68 (0, 0)) (g2 BK281.out) hb) (blk_below (g := gb290) (o := .cells #[.slice Ao11 t285.length co11] 68 (0, 0)) (g2 BK290.out) hb) (KeepBut.trans (g44 HK.out GW281.out GW290.out) (KeepBut.of_below hb g none) (.inl rfl)) (below_step (g43 HB.out HI0.out GE281.out GE290.out) hb)
  clear HO287 HI0 BK281 BK290 HK HB
  obtain ⟨HO287, HO320, HI0, BK281, BK290, HK, HB⟩ := n_
  clear hb ho75
  obtain ⟨Ao76, co76, eo76⟩ := Kd.R_slice HO320.out
  (first | subst eo76 | (injection eo76 with f1_ f2_ f3_; have f4_ := f1_.symm; have f5_ := f3_.symm; clear f1_ f2_ f3_; subst f4_; subst f5_))
  refine hK.out _ _ ((blk_cell BK290.out 0).trans rfl) (fun hHeld => ?_)
  clear hK K
  refine norm_ (a' := ?_) ?_ ?_
  rotate_left
  ·show Act.put _ (some 55) _ = _
   simp only [Act.put, List.setIfInBounds_toArray, List.set_cons_zero, List.set_cons_succ, i64_w, i32_w]
   rfl
  refine one_ (i := 6) (N := some 56) spec_l17Bent.b17_ rfl rfl (one_of HT_.out (by kernel_rfl)) (by decide) (fun K hK => ?_)
  refine goes_ Try.func47 (by kernel_rfl) rfl #[.pointer (some ⟨g, 0, none⟩), .slice Ao76 y318.length co76] (by rfl) rfl rfl (g9) ?_
  with_reducible refine (spec_l1PickInt.calls g s0_0 t295 t296 _ _ y318 t321 t322 t323 w0 _ ?side1 ?side2 ?side3 ?side4 ?side5 A69.out).mono ?_
  (case side1 => exact g42 HI0.out NB0_281.out NB0_290.out)
  (case side2 => exact g43 HB.out HI0.out GE281.out GE290.out)
  (case side3 => exact g26 HO320.out)
  (case side4 => exact (Kd.R_reads' HO320.out).2.1)
  (case side5 => exact g50 HI0.out HO320.out)
  rintro e w77 ⟨rfl, hi, hb, hk⟩
  refine ⟨_, rfl, ?_⟩
  have n_ := spec_l17Bent.K7_ (KeepBut.blk hk (g' := gb281) (o := .cells #[.slice none 0 0] 68 (0, 0)) (g2 BK281.out) NB281_0.out (by simp)) (Kd.R_mono (Kd.R_keep (IsS105.apart (show IsS105 w0 _ g s0_0 t295 t296 from by repeat (first | (with_reducible first | exact HI0.out | apply IsS105.alloc | apply IsS105.drewN | apply IsS105.drew | apply IsS105.set_1 | apply IsS105.set_2 | refine IsS105.far ?_ NB0_281.out _ | refine IsS105.far ?_ NB0_290.out _) | exact HI0.out)) (g1 HO287.out) (by decide)) hk (fun _ h => h.2)) (fun _ h => h.1)) (KeepBut.blk hk (g' := gb290) (o := .cells #[.slice Ao11 t285.length co11] 68 (0, 0)) (g2 BK290.out) NB290_0.out (by simp)) (Kd.R_mono (Kd.R_keep (IsS105.apart (show IsS105 w0 _ g s0_0 t295 t296 from by repeat (first | (with_reducible first | exact HI0.out | apply IsS105.alloc | apply IsS105.drewN | apply IsS105.drew | apply IsS105.set_1 | apply IsS105.set_2 | refine IsS105.far ?_ NB0_281.out _ | refine IsS105.far ?_ NB0_290.out _) | exact HI0.out)) (g1 HO320.out) (by decide)) hk (fun _ h => h.2)) (fun _ h => h.1)) (KeepBut.trans (g44 HK.out GW281.out GW290.out) hk (.inl rfl)) hb hi
  clear BK281 HO287 BK290 HO320 HK HB HI0
  obtain ⟨BK281, HO287, BK290, HO320, HK, HB, HI0⟩ := n_
  (try clear hb)
  (try clear hb2)
  (try clear hk)
  (try clear hi)
  have p72 : 0 ≤ (t291 : Int) := of_decide_eq_true (g6)
  have q72 : (t291 : Int) < ((t285.length : Int) : Int) := of_decide_eq_true (g6)
  obtain ⟨go72, co72, eo72, gb72, gl72, cl72, HG72⟩ := Kd.R_form HO287.out (by omega)
  (first | cases eo72 | (injection eo72 with ea_ en_ ec_; (first | subst ea_ | (injection ea_ with ea_; subst ea_)); subst ec_; clear en_))
  have GB72 := Aside0.mk gb72
  have GG72 := Aside0.mk HG72
  clear gb72 gl72 HG72
  obtain ⟨ce72, hcl72, hM72, hcc72, hfr72⟩ := Kd.R_elem HO287.out z93 (t291 : Int) p72 q72
  obtain rfl := k93_openM hM72
  have hx72_0 : World.cell? _ ⟨go72, (t291 : Int).toNat * 5, none⟩ = some (.int .i64 ((rd_T93 t285 t291).f0)) := hcc72 0 _ rfl
  have hx72_1 : World.cell? _ ⟨go72, (t291 : Int).toNat * 5 + 1, none⟩ = some (.int .i64 ((rd_T93 t285 t291).f1)) := hcc72 1 _ rfl
  have hx72_2 : World.cell? _ ⟨go72, (t291 : Int).toNat * 5 + 2, none⟩ = some (.int .i64 ((rd_T93 t285 t291).f2)) := hcc72 2 _ rfl
  have hx72_3 : World.cell? _ ⟨go72, (t291 : Int).toNat * 5 + 3, none⟩ = some (.int .i64 ((rd_T93 t285 t291).f3)) := hcc72 3 _ rfl
  have hx72_4 : World.cell? _ ⟨go72, (t291 : Int).toNat * 5 + 4, none⟩ = some (.int .i64 ((rd_T93 t285 t291).f4)) := hcc72 4 _ rfl
  have hf72_0 : World.frozen? _ ⟨go72, (t291 : Int).toNat * 5, none⟩ = false := hfr72 0
  have hf72_1 : World.frozen? _ ⟨go72, (t291 : Int).toNat * 5 + 1, none⟩ = false := hfr72 1
  have hf72_2 : World.frozen? _ ⟨go72, (t291 : Int).toNat * 5 + 2, none⟩ = false := hfr72 2
  have hf72_3 : World.frozen? _ ⟨go72, (t291 : Int).toNat * 5 + 3, none⟩ = false := hfr72 3
  have hf72_4 : World.frozen? _ ⟨go72, (t291 : Int).toNat * 5 + 4, none⟩ = false := hfr72 4
  clear hcl72 hcc72 hfr72; (try clear hM72)
  replace p72 := eq_true p72
  replace q72 := eq_true q72
  have HN0_go72 := Aside0.mk (show g ≠ go72 from by have h_ := IsS105.own_ne HI0.out HO287.out (by decide); intro e_; exact h_ (by rw [e_]; rfl))
  obtain ⟨ce78, hcl78, hM78, hcc78, hfr78⟩ := Kd.R_elem HO287.out z93 (t291 : Int) (of_decide_eq_true (g6)) spec_l17Bent.z0
  obtain rfl := k93_openM hM78
  have HP78 := (Kd.R_seg HO287.out (t291 : Int) (of_decide_eq_true (g6)) spec_l17Bent.z0 (seg := [.int .i64 t321]) (j := 3) hcl78 hcc78 (show 4 ≤ 5 from by decide) (x' := (⟨(rd_T93 t285 t291).f0, (rd_T93 t285 t291).f1, (rd_T93 t285 t291).f2, t321, (rd_T93 t285 t291).f4⟩ : S93)) (k93_mkM _ _ _ (⟨(rd_T93 t285 t291).f0, (rd_T93 t285 t291).f1, (rd_T93 t285 t291).f2, t321, (rd_T93 t285 t291).f4⟩ : S93) ) (fun _ hk => hk)).1
  rw [← Ny324.out] at HP78
  have HQ78 := Aside0.mk HP78
  clear hcl78 hcc78 hfr78 HP78; (try clear hM78)
  refine hK.out _ _ ((blk_cell BK290.out 0).trans rfl) (fun hHeld => ?_)
  clear hK K
  refine norm_ (a' := ?_) ?_ ?_
  rotate_left
  ·show Act.put _ (some 56) _ = _
   simp only [Act.put, List.setIfInBounds_toArray, List.set_cons_zero, List.set_cons_succ, i64_w, i32_w]
   rfl
  refine pure_ (i := 7) (N := some 57) (v := ?_) (a' := ?_) spec_l17Bent.b18_ rfl rfl (any_of HT_.out (by kernel_rfl)) (fun _ _ _ h => h) (Or.inl ⟨by rfl, ?_⟩) ?_ ?_
  rotate_left
  ·intro w'
   go_simp
   with_reducible rfl
  rotate_left
  ·exact ga0
  refine pure_ (i := 8) (N := some 58) (v := ?_) (a' := ?_) spec_l17Bent.b19_ rfl rfl (any_of HT_.out (by kernel_rfl)) (fun _ _ _ h => h) (Or.inl ⟨by rfl, ?_⟩) ?_ ?_
  rotate_left
  ·intro w'
   go_simp
   with_reducible rfl
  rotate_left
  ·exact ga0
  refine last_ (i := 9) (N := none) spec_l17Bent.b20_ rfl rfl (one_of HT_.out (by kernel_rfl)) (by decide) (fun K hK => ?_)
  refine skip_ (w1 := ?_) (by rfl) rfl ?_ ?_
  rotate_left
  ·go_simp
   rfl
  refine hK.out _ _ ?_
  clear hK K
  refine done_ (done_of HT_.out (by kernel_rfl)) ?_
  have n0_ : Aside0 (Kd.R k93 93 (w77.setCell ⟨go72, (t291 : Int).toNat * 5 + 3, none⟩ (.int .i64 t321)) w.heap.size (fun _ => True) (.slice (some ⟨go72, 0, none⟩) t285.length co11) y324) := ⟨g1 HQ78.out⟩
  have n1_ : Aside0 (Kd.R (Kd.int .i64) 3 (w77.setCell ⟨go72, (t291 : Int).toNat * 5 + 3, none⟩ (.int .i64 t321)) w.heap.size (fun _ => True) (.slice Ao76 y318.length co76) y318) := ⟨by (with_reducible repeat (first | apply Kd.R_alloc | apply Kd.R_drewN | apply Kd.R_drew)); exact Kd.R_mono (Kd.R_far (p := ⟨go72, (t291 : Int).toNat * 5 + 3, none⟩) (Kd.R_types HO320.out GG72.out (by decide)) (fun _ hk => hk.2) (.int .i64 t321)) (fun _ hk => trivial)⟩
  have n2_ : Aside0 ((w77.setCell ⟨go72, (t291 : Int).toNat * 5 + 3, none⟩ (.int .i64 t321)).heap[gb281]? = some (.cells #[.slice none 0 0] 68 (0, 0))) := ⟨by (with_reducible repeat (first | refine blk_drewN ?_ _ | refine blk_drew ?_ | refine blk_alloc ?_ _)); refine blk_far ?_ spec_l17Bent.z1 _; (with_reducible repeat (first | refine blk_drewN ?_ _ | refine blk_drew ?_ | refine blk_alloc ?_ _)); exact BK281.out⟩
  have n3_ : Aside0 ((w77.setCell ⟨go72, (t291 : Int).toNat * 5 + 3, none⟩ (.int .i64 t321)).heap[gb290]? = some (.cells #[.slice (some ⟨go72, 0, none⟩) t285.length co11] 68 (0, 0))) := ⟨by (with_reducible repeat (first | refine blk_drewN ?_ _ | refine blk_drew ?_ | refine blk_alloc ?_ _)); refine blk_far ?_ spec_l17Bent.z2 _; (with_reducible repeat (first | refine blk_drewN ?_ _ | refine blk_drew ?_ | refine blk_alloc ?_ _)); exact BK290.out⟩
  have n4_ : Aside0 (IsS105 w0 (w77.setCell ⟨go72, (t291 : Int).toNat * 5 + 3, none⟩ (.int .i64 t321)) g s0_0 t322 t323) := ⟨g46 HI0.out HN0_go72.out NB0_281.out NB0_290.out⟩
  have n5_ : Aside0 (KeepBut w (w77.setCell ⟨go72, (t291 : Int).toNat * 5 + 3, none⟩ (.int .i64 t321)) g none) := ⟨g47 HK.out GB72.out GW281.out GW290.out⟩
  have n6_ : Aside0 (Below w0.heap.size w0 (w77.setCell ⟨go72, (t291 : Int).toNat * 5 + 3, none⟩ (.int .i64 t321))) := ⟨g51 HB.out HL.out GB72.out HI0.out GE281.out GE290.out⟩
  (try clear HO287)
  (try clear HO320)
  (try clear BK281)
  (try clear BK290)
  (try clear HI0)
  (try clear HK)
  (try clear HB)
  generalize (w77.setCell ⟨go72, (t291 : Int).toNat * 5 + 3, none⟩ (.int .i64 t321)) = w79 at n0_ n1_ n2_ n3_ n4_ n5_ n6_ ⊢
  have HO287 := n0_
  have HO320 := n1_
  have BK281 := n2_
  have BK290 := n3_
  have HI0 := n4_
  have HK := n5_
  have HB := n6_
  clear n0_ n1_ n2_ n3_ n4_ n5_ n6_
  have hnb80 := NB290_281.out
  have hnc80 := NB281_290.out
  have hnb81 := NB290_0.out
  have hnc81 := NB0_290.out
  have hcz82_0 : w79.cell? ⟨gb290, 0, none⟩ = some (.slice (some ⟨go72, 0, none⟩) t285.length co11) := (blk_cell BK290.out 0).trans rfl
  have hfz82_0 := blk_frozen BK290.out 0
  have hnb83 := NB281_0.out
  have hnc83 := NB0_281.out
  have hcz84_0 : w79.cell? ⟨gb281, 0, none⟩ = some (.slice none 0 0) := (blk_cell BK281.out 0).trans rfl
  have hfz84_0 := blk_frozen BK281.out 0
  try go_wp2
  refine bodyPost_ret (results_cell_row rfl _ _ gb281 68 #[.slice (some ⟨go72, 0, none⟩) t285.length co11] (0, 0) _ rfl spec_l17Bent.z3 Try.underlying68 rfl (by kernel_rfl)) rfl ?_
  exact ⟨_, g5, by (with_reducible repeat (first | apply Kd.R_alloc | apply Kd.R_drewN | apply Kd.R_drew)); exact Kd.R_mono (Kd.R_far (p := ⟨gb281, 0, none⟩) (Kd.R_types HO287.out BK281.out (by decide)) (fun _ hk => hk.2) (.slice (some ⟨go72, 0, none⟩) t285.length co11)) (fun _ hk => trivial), g42 HI0.out NB0_281.out NB0_290.out, g43 HB.out HI0.out GE281.out GE290.out, g44 HK.out GW281.out GW290.out⟩
 rw [if_neg c68] at H
 have c68b0 : (t294 == 3) = false := beq_eq_false_iff_ne.mpr c68
 have c68b1 : (t294 != 3) = true := bne_iff_ne.mpr c68
 by_cases c85 : t294 = 4
 case neg =>
  rw [if_neg c85] at H
  have c85b0 : (t294 == 4) = false := beq_eq_false_iff_ne.mpr c85
  have c85b1 : (t294 != 4) = true := bne_iff_ne.mpr c85
  by_cases c102 : t294 = 5
  case pos =>
   rw [if_pos c102] at H
   have c102b0 : (t294 == 5) = true := beq_iff_eq.mpr c102
   have c102b1 : (t294 != 5) = false := bne_eq_false_iff_eq.mpr c102
   clear c102
   by_cases c103 : t285.length < 3518437208883
   case neg =>
    rw [if_neg c103] at H
    exact absurd H (by simp)
   rw [if_pos c103] at H
   have LMc103 := Aside0.mk c103
   clear c103
   obtain ⟨y332, hy332⟩ : ∃ y_ : List (S93), y_ = (t285 ++ [(⟨(-1), 0, 0, 0, 0⟩ : S93)]) := ⟨_, rfl⟩
   replace H : (some (y332, t295, t296)) = some (r1, r2, r3) := by first | (rw [hy332]; with_reducible exact H) | (have H2_ := (Option.bind_some _ _).symm.trans H; rw [hy332]; with_reducible exact H2_) | (have H2_ := (Option.bind_some _ _).symm.trans H; with_reducible exact H2_) | with_reducible exact H | (rw [hy332]; exact H) | exact H
   have Ny332 := Aside0.mk hy332
   clear hy332
   simp only [Option.some.injEq, Prod.mk.injEq] at H
   obtain ⟨rfl, rfl, rfl⟩ := H
   have hnb104 := NB290_281.out
   have hnc104 := NB281_290.out
   have hnb105 := NB290_0.out
   have hnc105 := NB0_290.out
   have hcz106_0 : w16.cell? ⟨gb290, 0, none⟩ = some (.slice Ao11 t285.length co11) := (blk_cell BK290.out 0).trans rfl
   have hfz106_0 := blk_frozen BK290.out 0
   go_wp2_with (first | ((with_reducible refine gate_builtin (b := .append) (xs := #[.tmp 72, .tmp 74]) rfl ?_); at_builtin; refine Kd.R_append k93 w.heap.size rfl (.tmp 72) (.tmp 74) 66 93 (.agg #[(.int .i64 0), (.int .i64 0), (.int .i64 0), (.int .i64 0), (.int .i64 0)]) 40 rfl Try.underlying66 info93 rfl (by decide) (by omega) (.slice Ao11 t285.length co11) t285 (⟨(-1), 0, 0, 0, 0⟩ : S93) [.int .i64 (-1), .int .i64 0, .int .i64 0, .int .i64 0, .int .i64 0] (fun _ => True) (fun _ => False) rfl rfl ?aP (fun _ hk => hk.elim) ?aF ?aO (Below.refl _ _) ?aS ?aL ?_; (case aP => exact k93_mkM _ _ _ (⟨(-1), 0, 0, 0, 0⟩ : S93)); (case aF => exact (fun _ _ => trivial)); (case aO => exact g14 HO287.out); (case aS => exact (keep_size (w := w) (g := g) (row := none) (g44 HK.out GW281.out GW290.out))); (case aL => have := LMc103.out; omega); intro v333 w107 ho hb hg hat; rw [← Ny332.out] at ho; have n_ := spec_l17Bent.K6_ (IsS105.grown (g42 HI0.out NB0_281.out NB0_290.out) hg (IsS105.own_ne HI0.out HO287.out (by decide))) (blk_grown (g := gb281) (o := .cells #[.slice none 0 0] 68 (0, 0)) (g2 BK281.out) hg (Kd.R_ne HO287.out BK281.out (by decide))) (blk_grown (g := gb290) (o := .cells #[.slice Ao11 t285.length co11] 68 (0, 0)) (g2 BK290.out) hg (Kd.R_ne HO287.out BK290.out (by decide))) (below_weaken (g43 HB.out HI0.out GE281.out GE290.out) HL.out hb) (KeepBut.trans (g44 HK.out GW281.out GW290.out) (KeepBut.of_grown hg g) (Kd.R_base2 HO287.out)) ho; clear HI0 BK281 BK290 HB HK HO287; obtain ⟨HI0, BK281, BK290, HB, HK, HO334⟩ := n_; clear ho hb hg hat; obtain ⟨Ao108, co108, eo108⟩ := Kd.R_slice HO334.out; subst eo108; have hcz109_0 : w107.cell? ⟨gb290, 0, none⟩ = some (.slice Ao11 t285.length co11) := (blk_cell BK290.out 0).trans rfl; have hfz109_0 := blk_frozen BK290.out 0; have hnb110 := NB281_0.out; have hnc110 := NB0_281.out; have hcz111_0 : w107.cell? ⟨gb281, 0, none⟩ = some (.slice none 0 0) := (blk_cell BK281.out 0).trans rfl; have hfz111_0 := blk_frozen BK281.out 0))
   refine bodyPost_ret (results_cell_row rfl _ _ gb281 68 #[.slice Ao108 y332.length co108] (0, 0) _ rfl spec_l17Bent.z4 Try.underlying68 rfl (by kernel_rfl)) rfl ?_
   exact ⟨_, g5, by (with_reducible repeat (first | apply Kd.R_alloc | apply Kd.R_drewN | apply Kd.R_drew)); exact Kd.R_mono (Kd.R_far (p := ⟨gb281, 0, none⟩) (Kd.R_far (p := ⟨gb290, 0, none⟩) (Kd.R_types (Kd.R_types HO334.out BK290.out (by decide)) BK281.out (by decide)) (fun _ hk => hk.1.2) (.slice Ao108 y332.length co108)) (fun _ hk => hk.2) (.slice Ao108 y332.length co108)) (fun _ hk => trivial), g42 HI0.out NB0_281.out NB0_290.out, g43 HB.out HI0.out GE281.out GE290.out, g44 HK.out GW281.out GW290.out⟩
  rw [if_neg c102] at H
  have c102b0 : (t294 == 5) = false := beq_eq_false_iff_ne.mpr c102
  have c102b1 : (t294 != 5) = true := bne_iff_ne.mpr c102
  by_cases c112 : t294 = 6
  case neg =>
   rw [if_neg c112] at H
   have c112b0 : (t294 == 6) = false := beq_eq_false_iff_ne.mpr c112
   have c112b1 : (t294 != 6) = true := bne_iff_ne.mpr c112
   simp only [Option.some.injEq, Prod.mk.injEq] at H
   obtain ⟨rfl, rfl, rfl⟩ := H
   have hnb121 := NB290_281.out
   have hnc121 := NB281_290.out
   have hnb122 := NB290_0.out
   have hnc122 := NB0_290.out
   have hcz123_0 : w16.cell? ⟨gb290, 0, none⟩ = some (.slice Ao11 t285.length co11) := (blk_cell BK290.out 0).trans rfl
   have hfz123_0 := blk_frozen BK290.out 0
   have hnb124 := NB281_0.out
   have hnc124 := NB0_281.out
   have hcz125_0 : w16.cell? ⟨gb281, 0, none⟩ = some (.slice none 0 0) := (blk_cell BK281.out 0).trans rfl
   have hfz125_0 := blk_frozen BK281.out 0
   go_wp2
   refine bodyPost_ret (results_cell_row rfl _ _ gb281 68 #[.slice Ao11 t285.length co11] (0, 0) _ rfl spec_l17Bent.z3 Try.underlying68 rfl (by kernel_rfl)) rfl ?_
   exact ⟨_, g5, by (with_reducible repeat (first | apply Kd.R_alloc | apply Kd.R_drewN | apply Kd.R_drew)); exact Kd.R_mono (Kd.R_far (p := ⟨gb281, 0, none⟩) (Kd.R_types HO287.out BK281.out (by decide)) (fun _ hk => hk.2) (.slice Ao11 t285.length co11)) (fun _ hk => trivial), g42 HI0.out NB0_281.out NB0_290.out, g43 HB.out HI0.out GE281.out GE290.out, g44 HK.out GW281.out GW290.out⟩
  rw [if_pos c112] at H
  have c112b0 : (t294 == 6) = true := beq_iff_eq.mpr c112
  have c112b1 : (t294 != 6) = false := bne_eq_false_iff_eq.mpr c112
  clear c112
  by_cases c113 : 0 ≤ t291
  case neg =>
   rw [if_neg c113] at H
   exact absurd H (by simp)
  rw [if_pos c113] at H
  have c113b0 := eq_true c113
  have c113b1 : decide (0 ≤ t291) = true := decide_eq_true c113
  clear c113
  by_cases c114 : t291 ≤ (t285.length : Int)
  case neg =>
   rw [if_neg c114] at H
   exact absurd H (by simp)
  rw [if_pos c114] at H
  have c114b0 := eq_true c114
  have c114b1 : decide (t291 ≤ (t285.length : Int)) = true := decide_eq_true c114
  clear c114
  obtain ⟨y335, hy335⟩ : ∃ y_ : List (S93), y_ = (t285.take (t291 : Int).toNat) := ⟨_, rfl⟩
  replace H : (some (y335, t295, t296)) = some (r1, r2, r3) := by first | (rw [hy335]; with_reducible exact H) | (have H2_ := (Option.bind_some _ _).symm.trans H; rw [hy335]; with_reducible exact H2_) | (have H2_ := (Option.bind_some _ _).symm.trans H; with_reducible exact H2_) | with_reducible exact H | (rw [hy335]; exact H) | exact H
  have Ny335 := Aside0.mk hy335
  clear hy335
  simp only [Option.some.injEq, Prod.mk.injEq] at H
  obtain ⟨rfl, rfl, rfl⟩ := H
  have hnb115 := NB290_281.out
  have hnc115 := NB281_290.out
  have hnb116 := NB290_0.out
  have hnc116 := NB0_290.out
  have hcz117_0 : w16.cell? ⟨gb290, 0, none⟩ = some (.slice Ao11 t285.length co11) := (blk_cell BK290.out 0).trans rfl
  have hfz117_0 := blk_frozen BK290.out 0
  have q118 : (t291 : Int) ≤ ((t285.length : Int) : Int) := of_decide_eq_true (g6)
  obtain ⟨i0118, hi0118, _, hsz118, _⟩ := info_parts info93
  have hcut118 := cut_to (P := Try.prog) 66 93 .i64 Try.underlying66 hi0118 Ao11 t285.length co11 t291 (of_decide_eq_true (g6)) q118 (Kd.R_reads' HO287.out).2.1
  have hr118 := Kd.R_take (m := (t291 : Int).toNat) HO287.out (by omega)
  have hy118 : y335.length = (t291 : Int).toNat := (by rw [Ny335.out, List.length_take]; omega)
  rw [← Ny335.out] at hr118
  rw [← hy118] at hr118 hcut118
  clear hy118 hi0118 hsz118 HO287
  have HO337 := Aside0.mk hr118
  clear hr118
  replace q118 := eq_true q118
  have hnb119 := NB281_0.out
  have hnc119 := NB0_281.out
  have hcz120_0 : w16.cell? ⟨gb281, 0, none⟩ = some (.slice none 0 0) := (blk_cell BK281.out 0).trans rfl
  have hfz120_0 := blk_frozen BK281.out 0
  go_wp2
  refine bodyPost_ret (results_cell_row rfl _ _ gb281 68 #[.slice Ao11 y335.length co11] (0, 0) _ rfl spec_l17Bent.z4 Try.underlying68 rfl (by kernel_rfl)) rfl ?_
  exact ⟨_, g5, by (with_reducible repeat (first | apply Kd.R_alloc | apply Kd.R_drewN | apply Kd.R_drew)); exact Kd.R_mono (Kd.R_far (p := ⟨gb281, 0, none⟩) (Kd.R_far (p := ⟨gb290, 0, none⟩) (Kd.R_types (Kd.R_types HO337.out BK290.out (by decide)) BK281.out (by decide)) (fun _ hk => hk.1.2) (.slice Ao11 y335.length co11)) (fun _ hk => hk.2) (.slice Ao11 y335.length co11)) (fun _ hk => trivial), g42 HI0.out NB0_281.out NB0_290.out, g43 HB.out HI0.out GE281.out GE290.out, g44 HK.out GW281.out GW290.out⟩
 rw [if_pos c85] at H
 have c85b0 : (t294 == 4) = true := beq_iff_eq.mpr c85
 have c85b1 : (t294 != 4) = false := bne_eq_false_iff_eq.mpr c85
 clear c85
 obtain ⟨y325, hy325⟩ : ∃ y_ : List Int, y_ = (([0, 1, 1099511627776, 1099511627777, (-1099511627777)] : List Int)) := ⟨_, rfl⟩
 replace H : ((spec_l1PickInt.f s0_0 t295 t296 y325).bind fun bt328 => (if 0 ≤ t291 then (if t291 < (t285.length : Int) then (some ((t285.set (t291 : Int).toNat (⟨(rd_T93 t285 t291).f0, (rd_T93 t285 t291).f1, (rd_T93 t285 t291).f2, (rd_T93 t285 t291).f3, bt328.1⟩ : S93)), bt328.2.1, bt328.2.2)) else (none)) else (none))) = some (r1, r2, r3) := by first | (rw [hy325]; with_reducible exact H) | (have H2_ := (Option.bind_some _ _).symm.trans H; rw [hy325]; with_reducible exact H2_) | (have H2_ := (Option.bind_some _ _).symm.trans H; with_reducible exact H2_) | with_reducible exact H | (rw [hy325]; exact H) | exact H
 have Ny325 := Aside0.mk hy325
 clear hy325
 replace H := Option.bind_eq_some_iff.mp H
 obtain ⟨⟨t328, t329, t330⟩, A860, H⟩ := H
 replace H : (if 0 ≤ t291 then (if t291 < (t285.length : Int) then (some ((t285.set (t291 : Int).toNat (⟨(rd_T93 t285 t291).f0, (rd_T93 t285 t291).f1, (rd_T93 t285 t291).f2, (rd_T93 t285 t291).f3, t328⟩ : S93)), t329, t330)) else (none)) else (none)) = some (r1, r2, r3) := H
 have A86 := Aside0.mk A860
 clear A860
 by_cases c87 : 0 ≤ t291
 case neg =>
  rw [if_neg c87] at H
  exact absurd H (by simp)
 rw [if_pos c87] at H
 have c87b0 : decide (0 ≤ t291) = true := decide_eq_true c87
 clear c87
 by_cases c88 : t291 < (t285.length : Int)
 case neg =>
  rw [if_neg c88] at H
  exact absurd H (by simp)
 rw [if_pos c88] at H
 have c88b0 : decide (t291 < (t285.length : Int)) = true := decide_eq_true c88
 clear c88
 obtain ⟨y331, hy331⟩ : ∃ y_ : List (S93), y_ = (t285.set (t291 : Int).toNat (⟨(rd_T93 t285 t291).f0, (rd_T93 t285 t291).f1, (rd_T93 t285 t291).f2, (rd_T93 t285 t291).f3, t328⟩ : S93)) := ⟨_, rfl⟩
 replace H : (some (y331, t329, t330)) = some (r1, r2, r3) := by first | (rw [hy331]; with_reducible exact H) | (have H2_ := (Option.bind_some _ _).symm.trans H; rw [hy331]; with_reducible exact H2_) | (have H2_ := (Option.bind_some _ _).symm.trans H; with_reducible exact H2_) | with_reducible exact H | (rw [hy331]; exact H) | exact H
 have Ny331 := Aside0.mk hy331
 clear hy331
 simp only [Option.some.injEq, Prod.mk.injEq] at H
 obtain ⟨rfl, rfl, rfl⟩ := H
 try go_wp2
 have n_ := spec_l17Bent.K6_ (Kd.R_drew HO287.out) (blk_drew BK281.out) (blk_drew BK290.out) (IsS105.drew HI0.out) (keep_drew HK.out) (below_drew1 HB.out)
 clear HO287 BK281 BK290 HI0 HK HB
 obtain ⟨HO287, BK281, BK290, HI0, HK, HB⟩ := n_
 refine start_ (n := 9) (S := fun w' => w'.cell? ⟨gb290, 0, none⟩ = some (.slice Ao11 t285.length co11)) (ds := [8]) spec_l17Bent.b0_ (by kernel_rfl) rfl rfl ((blk_cell BK290.out 0).trans rfl) (fun hHeld => ?_); refine with_tabW spec_l17Bent.tab13 spec_l17Bent.bits13 (fun HT_ HW_ => ?_)
 generalize w16.drew = w90 at HO287 BK281 BK290 HI0 HK HB hHeld ⊢
 refine pure_ (i := 0) (N := some 61) (v := ?_) (a' := ?_) spec_l17Bent.b1_ rfl rfl (any_of HT_.out (by kernel_rfl)) (fun _ _ _ h => h) (Or.inl ⟨by rfl, ?_⟩) ?_ ?_
 rotate_left
 ·intro w'
  go_simp
  with_reducible rfl
 rotate_left
 ·exact ga0
 refine pure_ (i := 2) (N := some 63) (v := ?_) (a' := ?_) spec_l17Bent.b2_ rfl rfl (any_of HT_.out (by kernel_rfl)) (fun _ _ _ h => h) (Or.inl ⟨by rfl, ?_⟩) ?_ ?_
 rotate_left
 ·intro w'
  go_simp
  with_reducible rfl
 rotate_left
 ·exact ga0
 refine pure_ (i := 3) (N := some 64) (v := ?_) (a' := ?_) spec_l17Bent.b3_ rfl rfl (any_of HT_.out (by kernel_rfl)) (fun _ _ _ h => h) (Or.inl ⟨by rfl, ?_⟩) ?_ ?_
 rotate_left
 ·intro w'
  go_simp
  with_reducible rfl
 rotate_left
 ·exact ga0
 refine take_ (i := 1) (N := some 62) (v := ?_) (a' := ?_) spec_l17Bent.b4_ rfl rfl (take_ofW HT_.out HW_.out (by kernel_rfl)) (fun _ _ _ h => h) (Or.inl ⟨by rfl, ?_⟩) hHeld ?_ ?_
 rotate_left
 ·intro w' s0
  go_simp
  with_reducible rfl
 rotate_left
 ·exact ga0
 refine one_ (i := 4) (N := some 65) spec_l17Bent.b5_ rfl rfl (one_of HT_.out (by kernel_rfl)) (by decide) (fun K hK => ?_)
 refine Kd.R_lit_step (Kd.int .i64) _ 3 ?hg (N := 65) ?hd (xs := ([0, 1, 1099511627776, 1099511627777, (-1099511627777)] : List Int)) (inner := [.int .i64 0, .int .i64 1, .int .i64 1099511627776, .int .i64 1099511627777, .int .i64 (-1099511627777)]) (ok := fun _ => True) (okp := fun _ => True) ?hr ?hp (fun _ hk => hk) trivial (Below.refl _ _) (Nat.le_refl _) (by simp) ?_; (case hd => rfl); (case hg => rfl); (case hr => exact g10); (case hp => exact (Reps.one (show Kd.M (Kd.int .i64) _ _ _ 0 [.int .i64 0] from rfl) (Reps.one (show Kd.M (Kd.int .i64) _ _ _ 1 [.int .i64 1] from rfl) (Reps.one (show Kd.M (Kd.int .i64) _ _ _ 1099511627776 [.int .i64 1099511627776] from rfl) (Reps.one (show Kd.M (Kd.int .i64) _ _ _ 1099511627777 [.int .i64 1099511627777] from rfl) (Reps.one (show Kd.M (Kd.int .i64) _ _ _ (-1099511627777) [.int .i64 (-1099511627777)] from rfl) (Reps.none _ _)))))))
 intro v326 w91 ho92 hb hg_ hnew_
 clear hg_ hnew_
 (first | rw [← Ny325.out] at ho92 | (simp only [Int.reduceToNat] at ho92; rw [← Ny325.out] at ho92))
 have n_ := spec_l17Bent.K7_ (Kd.R_below (g1 HO287.out) hb) (Kd.R_lower ho92 (keep_size (w := w) (g := g) (row := none) (g44 HK.out GW281.out GW290.out))) (IsS105.below (g42 HI0.out NB0_281.out NB0_290.out) hb) (blk_below (g := gb281) (o := .cells #[.slice none 0 0] 68 (0, 0)) (g2 BK281.out) hb) (blk_below (g := gb290) (o := .cells #[.slice Ao11 t285.length co11] 68 (0, 0)) (g2 BK290.out) hb) (KeepBut.trans (g44 HK.out GW281.out GW290.out) (KeepBut.of_below hb g none) (.inl rfl)) (below_step (g43 HB.out HI0.out GE281.out GE290.out) hb)
 clear HO287 HI0 BK281 BK290 HK HB
 obtain ⟨HO287, HO327, HI0, BK281, BK290, HK, HB⟩ := n_
 clear hb ho92
 obtain ⟨Ao93, co93, eo93⟩ := Kd.R_slice HO327.out
 (first | subst eo93 | (injection eo93 with f1_ f2_ f3_; have f4_ := f1_.symm; have f5_ := f3_.symm; clear f1_ f2_ f3_; subst f4_; subst f5_))
 refine hK.out _ _ ((blk_cell BK290.out 0).trans rfl) (fun hHeld => ?_)
 clear hK K
 refine norm_ (a' := ?_) ?_ ?_
 rotate_left
 ·show Act.put _ (some 65) _ = _
  simp only [Act.put, List.setIfInBounds_toArray, List.set_cons_zero, List.set_cons_succ, i64_w, i32_w]
  rfl
 refine one_ (i := 5) (N := some 66) spec_l17Bent.b6_ rfl rfl (one_of HT_.out (by kernel_rfl)) (by decide) (fun K hK => ?_)
 refine goes_ Try.func47 (by kernel_rfl) rfl #[.pointer (some ⟨g, 0, none⟩), .slice Ao93 y325.length co93] (by rfl) rfl rfl (g9) ?_
 with_reducible refine (spec_l1PickInt.calls g s0_0 t295 t296 _ _ y325 t328 t329 t330 w0 _ ?side1 ?side2 ?side3 ?side4 ?side5 A86.out).mono ?_
 (case side1 => exact g42 HI0.out NB0_281.out NB0_290.out)
 (case side2 => exact g43 HB.out HI0.out GE281.out GE290.out)
 (case side3 => exact g26 HO327.out)
 (case side4 => exact (Kd.R_reads' HO327.out).2.1)
 (case side5 => exact g50 HI0.out HO327.out)
 rintro e w94 ⟨rfl, hi, hb, hk⟩
 refine ⟨_, rfl, ?_⟩
 have n_ := spec_l17Bent.K7_ (KeepBut.blk hk (g' := gb281) (o := .cells #[.slice none 0 0] 68 (0, 0)) (g2 BK281.out) NB281_0.out (by simp)) (Kd.R_mono (Kd.R_keep (IsS105.apart (show IsS105 w0 _ g s0_0 t295 t296 from by repeat (first | (with_reducible first | exact HI0.out | apply IsS105.alloc | apply IsS105.drewN | apply IsS105.drew | apply IsS105.set_1 | apply IsS105.set_2 | refine IsS105.far ?_ NB0_281.out _ | refine IsS105.far ?_ NB0_290.out _) | exact HI0.out)) (g1 HO287.out) (by decide)) hk (fun _ h => h.2)) (fun _ h => h.1)) (KeepBut.blk hk (g' := gb290) (o := .cells #[.slice Ao11 t285.length co11] 68 (0, 0)) (g2 BK290.out) NB290_0.out (by simp)) (Kd.R_mono (Kd.R_keep (IsS105.apart (show IsS105 w0 _ g s0_0 t295 t296 from by repeat (first | (with_reducible first | exact HI0.out | apply IsS105.alloc | apply IsS105.drewN | apply IsS105.drew | apply IsS105.set_1 | apply IsS105.set_2 | refine IsS105.far ?_ NB0_281.out _ | refine IsS105.far ?_ NB0_290.out _) | exact HI0.out)) (g1 HO327.out) (by decide)) hk (fun _ h => h.2)) (fun _ h => h.1)) (KeepBut.trans (g44 HK.out GW281.out GW290.out) hk (.inl rfl)) hb hi
 clear BK281 HO287 BK290 HO327 HK HB HI0
 obtain ⟨BK281, HO287, BK290, HO327, HK, HB, HI0⟩ := n_
 (try clear hb)
 (try clear hb2)
 (try clear hk)
 (try clear hi)
 have p89 : 0 ≤ (t291 : Int) := of_decide_eq_true (g6)
 have q89 : (t291 : Int) < ((t285.length : Int) : Int) := of_decide_eq_true (g6)
 obtain ⟨go89, co89, eo89, gb89, gl89, cl89, HG89⟩ := Kd.R_form HO287.out (by omega)
 (first | cases eo89 | (injection eo89 with ea_ en_ ec_; (first | subst ea_ | (injection ea_ with ea_; subst ea_)); subst ec_; clear en_))
 have GB89 := Aside0.mk gb89
 have GG89 := Aside0.mk HG89
 clear gb89 gl89 HG89
 obtain ⟨ce89, hcl89, hM89, hcc89, hfr89⟩ := Kd.R_elem HO287.out z93 (t291 : Int) p89 q89
 obtain rfl := k93_openM hM89
 have hx89_0 : World.cell? _ ⟨go89, (t291 : Int).toNat * 5, none⟩ = some (.int .i64 ((rd_T93 t285 t291).f0)) := hcc89 0 _ rfl
 have hx89_1 : World.cell? _ ⟨go89, (t291 : Int).toNat * 5 + 1, none⟩ = some (.int .i64 ((rd_T93 t285 t291).f1)) := hcc89 1 _ rfl
 have hx89_2 : World.cell? _ ⟨go89, (t291 : Int).toNat * 5 + 2, none⟩ = some (.int .i64 ((rd_T93 t285 t291).f2)) := hcc89 2 _ rfl
 have hx89_3 : World.cell? _ ⟨go89, (t291 : Int).toNat * 5 + 3, none⟩ = some (.int .i64 ((rd_T93 t285 t291).f3)) := hcc89 3 _ rfl
 have hx89_4 : World.cell? _ ⟨go89, (t291 : Int).toNat * 5 + 4, none⟩ = some (.int .i64 ((rd_T93 t285 t291).f4)) := hcc89 4 _ rfl
 have hf89_0 : World.frozen? _ ⟨go89, (t291 : Int).toNat * 5, none⟩ = false := hfr89 0
 have hf89_1 : World.frozen? _ ⟨go89, (t291 : Int).toNat * 5 + 1, none⟩ = false := hfr89 1
 have hf89_2 : World.frozen? _ ⟨go89, (t291 : Int).toNat * 5 + 2, none⟩ = false := hfr89 2
 have hf89_3 : World.frozen? _ ⟨go89, (t291 : Int).toNat * 5 + 3, none⟩ = false := hfr89 3
 have hf89_4 : World.frozen? _ ⟨go89, (t291 : Int).toNat * 5 + 4, none⟩ = false := hfr89 4
 clear hcl89 hcc89 hfr89; (try clear hM89)
 replace p89 := eq_true p89
 replace q89 := eq_true q89
 have HN0_go89 := Aside0.mk (show g ≠ go89 from by have h_ := IsS105.own_ne HI0.out HO287.out (by decide); intro e_; exact h_ (by rw [e_]; rfl))
 obtain ⟨ce95, hcl95, hM95, hcc95, hfr95⟩ := Kd.R_elem HO287.out z93 (t291 : Int) (of_decide_eq_true (g6)) spec_l17Bent.z0
 obtain rfl := k93_openM hM95
 have HP95 := (Kd.R_seg HO287.out (t291 : Int) (of_decide_eq_true (g6)) spec_l17Bent.z0 (seg := [.int .i64 t328]) (j := 4) hcl95 hcc95 (show 5 ≤ 5 from by decide) (x' := (⟨(rd_T93 t285 t291).f0, (rd_T93 t285 t291).f1, (rd_T93 t285 t291).f2, (rd_T93 t285 t291).f3, t328⟩ : S93)) (k93_mkM _ _ _ (⟨(rd_T93 t285 t291).f0, (rd_T93 t285 t291).f1, (rd_T93 t285 t291).f2, (rd_T93 t285 t291).f3, t328⟩ : S93) ) (fun _ hk => hk)).1
 rw [← Ny331.out] at HP95
 have HQ95 := Aside0.mk HP95
 clear hcl95 hcc95 hfr95 HP95; (try clear hM95)
 refine hK.out _ _ ((blk_cell BK290.out 0).trans rfl) (fun hHeld => ?_)
 clear hK K
 refine norm_ (a' := ?_) ?_ ?_
 rotate_left
 ·show Act.put _ (some 66) _ = _
  simp only [Act.put, List.setIfInBounds_toArray, List.set_cons_zero, List.set_cons_succ, i64_w, i32_w]
  rfl
 refine pure_ (i := 6) (N := some 67) (v := ?_) (a' := ?_) spec_l17Bent.b7_ rfl rfl (any_of HT_.out (by kernel_rfl)) (fun _ _ _ h => h) (Or.inl ⟨by rfl, ?_⟩) ?_ ?_
 rotate_left
 ·intro w'
  go_simp
  with_reducible rfl
 rotate_left
 ·exact ga0
 refine pure_ (i := 7) (N := some 68) (v := ?_) (a' := ?_) spec_l17Bent.b8_ rfl rfl (any_of HT_.out (by kernel_rfl)) (fun _ _ _ h => h) (Or.inl ⟨by rfl, ?_⟩) ?_ ?_
 rotate_left
 ·intro w'
  go_simp
  with_reducible rfl
 rotate_left
 ·exact ga0
 refine last_ (i := 8) (N := none) spec_l17Bent.b9_ rfl rfl (one_of HT_.out (by kernel_rfl)) (by decide) (fun K hK => ?_)
 refine skip_ (w1 := ?_) (by rfl) rfl ?_ ?_
 rotate_left
 ·go_simp
  rfl
 refine hK.out _ _ ?_
 clear hK K
 refine done_ (done_of HT_.out (by kernel_rfl)) ?_
 have n0_ : Aside0 (Kd.R k93 93 (w94.setCell ⟨go89, (t291 : Int).toNat * 5 + 4, none⟩ (.int .i64 t328)) w.heap.size (fun _ => True) (.slice (some ⟨go89, 0, none⟩) t285.length co11) y331) := ⟨g1 HQ95.out⟩
 have n1_ : Aside0 (Kd.R (Kd.int .i64) 3 (w94.setCell ⟨go89, (t291 : Int).toNat * 5 + 4, none⟩ (.int .i64 t328)) w.heap.size (fun _ => True) (.slice Ao93 y325.length co93) y325) := ⟨by (with_reducible repeat (first | apply Kd.R_alloc | apply Kd.R_drewN | apply Kd.R_drew)); exact Kd.R_mono (Kd.R_far (p := ⟨go89, (t291 : Int).toNat * 5 + 4, none⟩) (Kd.R_types HO327.out GG89.out (by decide)) (fun _ hk => hk.2) (.int .i64 t328)) (fun _ hk => trivial)⟩
 have n2_ : Aside0 ((w94.setCell ⟨go89, (t291 : Int).toNat * 5 + 4, none⟩ (.int .i64 t328)).heap[gb281]? = some (.cells #[.slice none 0 0] 68 (0, 0))) := ⟨by (with_reducible repeat (first | refine blk_drewN ?_ _ | refine blk_drew ?_ | refine blk_alloc ?_ _)); refine blk_far ?_ spec_l17Bent.z1 _; (with_reducible repeat (first | refine blk_drewN ?_ _ | refine blk_drew ?_ | refine blk_alloc ?_ _)); exact BK281.out⟩
 have n3_ : Aside0 ((w94.setCell ⟨go89, (t291 : Int).toNat * 5 + 4, none⟩ (.int .i64 t328)).heap[gb290]? = some (.cells #[.slice (some ⟨go89, 0, none⟩) t285.length co11] 68 (0, 0))) := ⟨by (with_reducible repeat (first | refine blk_drewN ?_ _ | refine blk_drew ?_ | refine blk_alloc ?_ _)); refine blk_far ?_ spec_l17Bent.z2 _; (with_reducible repeat (first | refine blk_drewN ?_ _ | refine blk_drew ?_ | refine blk_alloc ?_ _)); exact BK290.out⟩
 have n4_ : Aside0 (IsS105 w0 (w94.setCell ⟨go89, (t291 : Int).toNat * 5 + 4, none⟩ (.int .i64 t328)) g s0_0 t329 t330) := ⟨g46 HI0.out HN0_go89.out NB0_281.out NB0_290.out⟩
 have n5_ : Aside0 (KeepBut w (w94.setCell ⟨go89, (t291 : Int).toNat * 5 + 4, none⟩ (.int .i64 t328)) g none) := ⟨g47 HK.out GB89.out GW281.out GW290.out⟩
 have n6_ : Aside0 (Below w0.heap.size w0 (w94.setCell ⟨go89, (t291 : Int).toNat * 5 + 4, none⟩ (.int .i64 t328))) := ⟨g51 HB.out HL.out GB89.out HI0.out GE281.out GE290.out⟩
 (try clear HO287)
 (try clear HO327)
 (try clear BK281)
 (try clear BK290)
 (try clear HI0)
 (try clear HK)
 (try clear HB)
 generalize (w94.setCell ⟨go89, (t291 : Int).toNat * 5 + 4, none⟩ (.int .i64 t328)) = w96 at n0_ n1_ n2_ n3_ n4_ n5_ n6_ ⊢
 have HO287 := n0_
 have HO327 := n1_
 have BK281 := n2_
 have BK290 := n3_
 have HI0 := n4_
 have HK := n5_
 have HB := n6_
 clear n0_ n1_ n2_ n3_ n4_ n5_ n6_
 have hnb97 := NB290_281.out
 have hnc97 := NB281_290.out
 have hnb98 := NB290_0.out
 have hnc98 := NB0_290.out
 have hcz99_0 : w96.cell? ⟨gb290, 0, none⟩ = some (.slice (some ⟨go89, 0, none⟩) t285.length co11) := (blk_cell BK290.out 0).trans rfl
 have hfz99_0 := blk_frozen BK290.out 0
 have hnb100 := NB281_0.out
 have hnc100 := NB0_281.out
 have hcz101_0 : w96.cell? ⟨gb281, 0, none⟩ = some (.slice none 0 0) := (blk_cell BK281.out 0).trans rfl
 have hfz101_0 := blk_frozen BK281.out 0
 try go_wp2
 refine bodyPost_ret (results_cell_row rfl _ _ gb281 68 #[.slice (some ⟨go89, 0, none⟩) t285.length co11] (0, 0) _ rfl spec_l17Bent.z3 Try.underlying68 rfl (by kernel_rfl)) rfl ?_
 exact ⟨_, g5, by (with_reducible repeat (first | apply Kd.R_alloc | apply Kd.R_drewN | apply Kd.R_drew)); exact Kd.R_mono (Kd.R_far (p := ⟨gb281, 0, none⟩) (Kd.R_types HO287.out BK281.out (by decide)) (fun _ hk => hk.2) (.slice (some ⟨go89, 0, none⟩) t285.length co11)) (fun _ hk => trivial), g42 HI0.out NB0_281.out NB0_290.out, g43 HB.out HI0.out GE281.out GE290.out, g44 HK.out GW281.out GW290.out⟩
end Go.Proofs.Yteoikmbdpofhmaa.XFnUses
