import Derived.Test.YteoikmbdpofhmaaVFnUsesXx0
import Derived.Test.YteoikmbdpofhmaaVFnUsesXx2
import Derived.Test.YteoikmbdpofhmaaVFnUsesXx5
namespace Go.Proofs.Yteoikmbdpofhmaa.XFnUses
open Go.RowKit Go.Proofs.YteoikmbdpofhmaaW.PrintWords Go.Proofs.YteoikmbdpofhmaaW.PrintLast Go.Proofs.YteoikmbdpofhmaaW.PrintMore
attribute [local go_sem] max2_int min2_int max_two min_two max_three min_three max_four min_four
set_option linter.unusedVariables false
set_option linter.unusedSimpArgs false
def spec_l24Right.b0_ : Array Bool := #[false, false, false, false, false, false, false, false, false]
def spec_l24Right.b1_ : Array Bool := #[true, false, false, false, false, false, false, false, false]
def spec_l24Right.b2_ : Array Bool := #[true, false, true, false, false, false, false, false, false]
def spec_l24Right.b3_ : Array Bool := #[true, true, true, true, false, false, false, false, false]
def spec_l24Right.b4_ : Array Bool := #[true, true, true, true, true, false, false, false, false]
def spec_l24Right.b5_ : Array Bool := #[true, true, true, true, true, true, false, false, false]
def spec_l24Right.b6_ : Array Bool := #[true, true, true, true, true, true, true, false, false]
def spec_l24Right.b7_ : Array Bool := #[true, true, true, true, true, true, true, true, false]
def spec_l24Right.b8_ : Array Bool := #[true, true, true, true, true, true, true, true, true]
theorem spec_l24Right.K3_ {p0 p1 p2 : Prop} (h0 : p0) (h1 : p1) (h2 : p2) : Aside0 p0 ∧ Aside0 p1 ∧ Aside0 p2 := ⟨⟨h0⟩, ⟨h1⟩, ⟨h2⟩⟩
theorem spec_l24Right.K4_ {p0 p1 p2 p3 : Prop} (h0 : p0) (h1 : p1) (h2 : p2) (h3 : p3) : Aside0 p0 ∧ Aside0 p1 ∧ Aside0 p2 ∧ Aside0 p3 := ⟨⟨h0⟩, ⟨h1⟩, ⟨h2⟩, ⟨h3⟩⟩
theorem spec_l24Right.K5_ {p0 p1 p2 p3 p4 : Prop} (h0 : p0) (h1 : p1) (h2 : p2) (h3 : p3) (h4 : p4) : Aside0 p0 ∧ Aside0 p1 ∧ Aside0 p2 ∧ Aside0 p3 ∧ Aside0 p4 := ⟨⟨h0⟩, ⟨h1⟩, ⟨h2⟩, ⟨h3⟩, ⟨h4⟩⟩
theorem spec_l24Right.K6_ {p0 p1 p2 p3 p4 p5 : Prop} (h0 : p0) (h1 : p1) (h2 : p2) (h3 : p3) (h4 : p4) (h5 : p5) : Aside0 p0 ∧ Aside0 p1 ∧ Aside0 p2 ∧ Aside0 p3 ∧ Aside0 p4 ∧ Aside0 p5 := ⟨⟨h0⟩, ⟨h1⟩, ⟨h2⟩, ⟨h3⟩, ⟨h4⟩, ⟨h5⟩⟩
theorem spec_l24Right.K7_ {p0 p1 p2 p3 p4 p5 p6 : Prop} (h0 : p0) (h1 : p1) (h2 : p2) (h3 : p3) (h4 : p4) (h5 : p5) (h6 : p6) : Aside0 p0 ∧ Aside0 p1 ∧ Aside0 p2 ∧ Aside0 p3 ∧ Aside0 p4 ∧ Aside0 p5 ∧ Aside0 p6 := ⟨⟨h0⟩, ⟨h1⟩, ⟨h2⟩, ⟨h3⟩, ⟨h4⟩, ⟨h5⟩, ⟨h6⟩⟩
theorem spec_l24Right.K8_ {p0 p1 p2 p3 p4 p5 p6 p7 : Prop} (h0 : p0) (h1 : p1) (h2 : p2) (h3 : p3) (h4 : p4) (h5 : p5) (h6 : p6) (h7 : p7) : Aside0 p0 ∧ Aside0 p1 ∧ Aside0 p2 ∧ Aside0 p3 ∧ Aside0 p4 ∧ Aside0 p5 ∧ Aside0 p6 ∧ Aside0 p7 := ⟨⟨h0⟩, ⟨h1⟩, ⟨h2⟩, ⟨h3⟩, ⟨h4⟩, ⟨h5⟩, ⟨h6⟩, ⟨h7⟩⟩
theorem spec_l24Right.K13_ {p0 p1 p2 p3 p4 p5 p6 p7 p8 p9 p10 p11 p12 : Prop} (h0 : p0) (h1 : p1) (h2 : p2) (h3 : p3) (h4 : p4) (h5 : p5) (h6 : p6) (h7 : p7) (h8 : p8) (h9 : p9) (h10 : p10) (h11 : p11) (h12 : p12) : Aside0 p0 ∧ Aside0 p1 ∧ Aside0 p2 ∧ Aside0 p3 ∧ Aside0 p4 ∧ Aside0 p5 ∧ Aside0 p6 ∧ Aside0 p7 ∧ Aside0 p8 ∧ Aside0 p9 ∧ Aside0 p10 ∧ Aside0 p11 ∧ Aside0 p12 := ⟨⟨h0⟩, ⟨h1⟩, ⟨h2⟩, ⟨h3⟩, ⟨h4⟩, ⟨h5⟩, ⟨h6⟩, ⟨h7⟩, ⟨h8⟩, ⟨h9⟩, ⟨h10⟩, ⟨h11⟩, ⟨h12⟩⟩
mutual
def spec_l24Right.l0 : Nat → Int → Int → Int → List Int → Int → Int → List ByteArray → Int → List (S68) → Option (List ByteArray × List Int × Int × (List (S68)) × Int × Int)
  | 0, _, _, _, _, _, _, _, _, _ => none
  | k + 1, x3, x5, x6, x1000, x1001, x1002, x256000, x256002, x256003 => if x6 < x5 then ((spec_l17Right.f k x1000 x1001 x1002 x3).bind fun bt259 => (if x256003.length < 5864062014805 then (spec_l24Right.l0 k x3 x5 (wrap64 (x6 + 1)) x1000 bt259.2.1 bt259.2.2 x256000 x256002 (x256003 ++ [(⟨bt259.1⟩ : S68)])) else (none))) else (spec_l24Right.l1 k x3 x5 0 x1000 x1001 x1002 x256000 ([] : List Int) x256002 x256003)
def spec_l24Right.l1 : Nat → Int → Int → Int → List Int → Int → Int → List ByteArray → List Int → Int → List (S68) → Option (List ByteArray × List Int × Int × (List (S68)) × Int × Int)
  | 0, _, _, _, _, _, _, _, _, _, _ => none
  | k + 1, x3, x5, x7, x1000, x1001, x1002, x256000, x256001, x256002, x256003 => if x7 < x3 then (if (Int.tmod x5 2) = 1 then ((spec_l1Below.f x1000 x1001 x1002 3).bind fun bt267 => (if x256001.length < 17592186044416 then (spec_l24Right.l1 k x3 x5 (wrap64 (x7 + 1)) x1000 bt267.2.1 bt267.2.2 x256000 (x256001 ++ [wrap64 (bt267.1 - 1)]) x256002 x256003) else (none))) else (some (x256000, x256001, x256002, x256003, x1001, x1002))) else (some (x256000, x256001, x256002, x256003, x1001, x1002))
end
def spec_l24Right.f (k : Nat) (s0_0 : List Int) (s0_1 : Int) (s0_2 : Int) : Option (List ByteArray × List Int × Int × (List (S68)) × Int × Int) := (spec_l1Below.f s0_0 s0_1 s0_2 3).bind fun bt236 => ((some (([] : List ByteArray) : List ByteArray)).bind fun y239 => ((some (([(⟨#[97]⟩ : ByteArray), (⟨#[98]⟩ : ByteArray), (⟨#[99, 50]⟩ : ByteArray)] : List ByteArray) : List ByteArray)).bind fun y242 => (if 0 ≤ (wrap64 (1 + bt236.1)) then (if (wrap64 (1 + bt236.1)) ≤ (y242.length : Int) then ((some (y242.take ((wrap64 (1 + bt236.1)) : Int).toNat : List ByteArray)).bind fun y245 => (if y239.length + y245.length < 8796093022208 then ((spec_l1Below.f s0_0 bt236.2.1 bt236.2.2 21).bind fun bt252 => ((spec_l1Below.f s0_0 bt252.2.1 bt252.2.2 4).bind fun bt256 => (spec_l24Right.l0 k (wrap64 (1 + bt236.1)) bt256.1 0 s0_0 bt256.2.1 bt256.2.2 (y239 ++ y245) (wrap64 (50 * (wrap64 (bt252.1 - 10)))) ([] : List (S68))))) else (none))) else (none)) else (none))))
def spec_l24Right.T7 : Bool × List (List Nat × List Nat) := (true, [([], []), ([0], [0]), ([], []), ([], []), ([2, 3], [2, 3]), ([4], [4]), ([1, 5, 4], [1, 5]), ([0, 1, 2, 3, 4, 5, 6], []), ([7, 6, 6, 0, 1, 2, 3, 4, 5, 6], [6, 7])])
def spec_l24Right.B7 : List Nat := [0, 1, 0, 0, 12, 28, 63, 127, 255]
theorem spec_l24Right.tab7 : rtab .any (opsOf Try.f120 7) = spec_l24Right.T7 := by kernel_rfl
theorem spec_l24Right.bits7 : waitsOk spec_l24Right.T7.2 spec_l24Right.B7 = true := by kernel_rfl
def spec_l24Right.T11 : Bool × List (List Nat × List Nat) := (true, [([], []), ([0], [0]), ([], []), ([2], [2]), ([3], [3]), ([4], [4]), ([1, 5, 3], [1, 5]), ([0, 1, 2, 3, 4, 5, 6], []), ([7, 6, 6, 0, 1, 2, 3, 4, 5, 6], [6, 7])])
def spec_l24Right.B11 : List Nat := [0, 1, 0, 4, 12, 28, 63, 127, 255]
theorem spec_l24Right.tab11 : rtab .any (opsOf Try.f120 11) = spec_l24Right.T11 := by kernel_rfl
theorem spec_l24Right.bits11 : waitsOk spec_l24Right.T11.2 spec_l24Right.B11 = true := by kernel_rfl
set_option maxHeartbeats 8000000 in
set_option maxRecDepth 100000 in
theorem spec_l24Right.calls (k : Nat) (g : Nat) (s0_0 : List Int) (s0_1 : Int) (s0_2 : Int) (r1 : List ByteArray) (r2 : List Int) (r3 : Int) (r4 : List (S68)) (r5 : Int) (r6 : Int) (w0 w : World) (hI : IsS105 w0 w g s0_0 s0_1 s0_2) (hB : Below w0.heap.size w0 w) (h : spec_l24Right.f k s0_0 s0_1 s0_2 = some (r1, r2, r3, r4, r5, r6)) :
    Calls Try.prog 120 #[.pointer (some ⟨g, 0, none⟩)] w fun e w' => ∃ v0_ v1_ v3_ : Value, e = .returned (.agg #[v0_, v1_, .int .i64 r3, v3_]) ∧ Kd.R Kd.string 9 w' w.heap.size (fun _ => True) v0_ r1 ∧ Kd.R (Kd.int .i64) 3 w' w.heap.size (fun _ => True) v1_ r2 ∧ Kd.S k68 68 w' w.heap.size (fun _ => True) v3_ r4 ∧ IsS105 w0 w' g s0_0 r5 r6 ∧ Below w0.heap.size w0 w' ∧ KeepBut w w' g none := by
 have hu46 := Try.underlying46
 have HI0 := Aside0.mk hI
 have HK := Aside0.mk (KeepBut.refl w g none)
 have HL := Aside0.mk hB.size
 clear hI
 have HW0 := Aside0.mk hB.size
 have HB := Aside0.mk hB
 clear hB
 have H : ((spec_l1Below.f s0_0 s0_1 s0_2 3).bind fun bt236 => ((some (([] : List ByteArray) : List ByteArray)).bind fun y239 => ((some (([(⟨#[97]⟩ : ByteArray), (⟨#[98]⟩ : ByteArray), (⟨#[99, 50]⟩ : ByteArray)] : List ByteArray) : List ByteArray)).bind fun y242 => (if 0 ≤ (wrap64 (1 + bt236.1)) then (if (wrap64 (1 + bt236.1)) ≤ (y242.length : Int) then ((some (y242.take ((wrap64 (1 + bt236.1)) : Int).toNat : List ByteArray)).bind fun y245 => (if y239.length + y245.length < 8796093022208 then ((spec_l1Below.f s0_0 bt236.2.1 bt236.2.2 21).bind fun bt252 => ((spec_l1Below.f s0_0 bt252.2.1 bt252.2.2 4).bind fun bt256 => (spec_l24Right.l0 k (wrap64 (1 + bt236.1)) bt256.1 0 s0_0 bt256.2.1 bt256.2.2 (y239 ++ y245) (wrap64 (50 * (wrap64 (bt252.1 - 10)))) ([] : List (S68))))) else (none))) else (none)) else (none))))) = some (r1, r2, r3, r4, r5, r6) := h
 clear h
 replace H := Option.bind_eq_some_iff.mp H
 obtain ⟨⟨t236, t237, t238⟩, A20, H⟩ := H
 replace H : ((some (([] : List ByteArray) : List ByteArray)).bind fun y239 => ((some (([(⟨#[97]⟩ : ByteArray), (⟨#[98]⟩ : ByteArray), (⟨#[99, 50]⟩ : ByteArray)] : List ByteArray) : List ByteArray)).bind fun y242 => (if 0 ≤ (wrap64 (1 + t236)) then (if (wrap64 (1 + t236)) ≤ (y242.length : Int) then ((some (y242.take ((wrap64 (1 + t236)) : Int).toNat : List ByteArray)).bind fun y245 => (if y239.length + y245.length < 8796093022208 then ((spec_l1Below.f s0_0 t237 t238 21).bind fun bt252 => ((spec_l1Below.f s0_0 bt252.2.1 bt252.2.2 4).bind fun bt256 => (spec_l24Right.l0 k (wrap64 (1 + t236)) bt256.1 0 s0_0 bt256.2.1 bt256.2.2 (y239 ++ y245) (wrap64 (50 * (wrap64 (bt252.1 - 10)))) ([] : List (S68))))) else (none))) else (none)) else (none)))) = some (r1, r2, r3, r4, r5, r6) := H
 have A2 := Aside0.mk A20
 clear A20
 obtain ⟨y239, hy239⟩ : ∃ y_ : List ByteArray, y_ = (([] : List ByteArray)) := ⟨_, rfl⟩
 replace H : ((some (([(⟨#[97]⟩ : ByteArray), (⟨#[98]⟩ : ByteArray), (⟨#[99, 50]⟩ : ByteArray)] : List ByteArray) : List ByteArray)).bind fun y242 => (if 0 ≤ (wrap64 (1 + t236)) then (if (wrap64 (1 + t236)) ≤ (y242.length : Int) then ((some (y242.take ((wrap64 (1 + t236)) : Int).toNat : List ByteArray)).bind fun y245 => (if y239.length + y245.length < 8796093022208 then ((spec_l1Below.f s0_0 t237 t238 21).bind fun bt252 => ((spec_l1Below.f s0_0 bt252.2.1 bt252.2.2 4).bind fun bt256 => (spec_l24Right.l0 k (wrap64 (1 + t236)) bt256.1 0 s0_0 bt256.2.1 bt256.2.2 (y239 ++ y245) (wrap64 (50 * (wrap64 (bt252.1 - 10)))) ([] : List (S68))))) else (none))) else (none)) else (none))) = some (r1, r2, r3, r4, r5, r6) := by first | (rw [hy239]; with_reducible exact H) | (have H2_ := (Option.bind_some _ _).symm.trans H; rw [hy239]; with_reducible exact H2_) | (have H2_ := (Option.bind_some _ _).symm.trans H; with_reducible exact H2_) | with_reducible exact H | (rw [hy239]; exact H) | exact H
 have Ny239 := Aside0.mk hy239
 clear hy239
 obtain ⟨y242, hy242⟩ : ∃ y_ : List ByteArray, y_ = (([(⟨#[97]⟩ : ByteArray), (⟨#[98]⟩ : ByteArray), (⟨#[99, 50]⟩ : ByteArray)] : List ByteArray)) := ⟨_, rfl⟩
 replace H : (if 0 ≤ (wrap64 (1 + t236)) then (if (wrap64 (1 + t236)) ≤ (y242.length : Int) then ((some (y242.take ((wrap64 (1 + t236)) : Int).toNat : List ByteArray)).bind fun y245 => (if y239.length + y245.length < 8796093022208 then ((spec_l1Below.f s0_0 t237 t238 21).bind fun bt252 => ((spec_l1Below.f s0_0 bt252.2.1 bt252.2.2 4).bind fun bt256 => (spec_l24Right.l0 k (wrap64 (1 + t236)) bt256.1 0 s0_0 bt256.2.1 bt256.2.2 (y239 ++ y245) (wrap64 (50 * (wrap64 (bt252.1 - 10)))) ([] : List (S68))))) else (none))) else (none)) else (none)) = some (r1, r2, r3, r4, r5, r6) := by first | (rw [hy242]; with_reducible exact H) | (have H2_ := (Option.bind_some _ _).symm.trans H; rw [hy242]; with_reducible exact H2_) | (have H2_ := (Option.bind_some _ _).symm.trans H; with_reducible exact H2_) | with_reducible exact H | (rw [hy242]; exact H) | exact H
 have Ny242 := Aside0.mk hy242
 clear hy242
 obtain ⟨ji3, hji3⟩ : ∃ j_ : Int, (wrap64 (1 + t236)) = j_ := ⟨_, rfl⟩
 replace H : (if 0 ≤ (ji3) then (if (ji3) ≤ (y242.length : Int) then ((some (y242.take ((ji3) : Int).toNat : List ByteArray)).bind fun y245 => (if y239.length + y245.length < 8796093022208 then ((spec_l1Below.f s0_0 t237 t238 21).bind fun bt252 => ((spec_l1Below.f s0_0 bt252.2.1 bt252.2.2 4).bind fun bt256 => (spec_l24Right.l0 k ji3 bt256.1 0 s0_0 bt256.2.1 bt256.2.2 (y239 ++ y245) (wrap64 (50 * (wrap64 (bt252.1 - 10)))) ([] : List (S68))))) else (none))) else (none)) else (none)) = some (r1, r2, r3, r4, r5, r6) := by first | (rw [hji3] at H; exact H) | (simp only [hji3] at H ⊢; exact H)
 (try rw [hji3] at A2)
 have hji3w : (IntKind.i64.wrap (1 + t236)) = ji3 := (i64_w _).trans hji3
 by_cases c4 : 0 ≤ (ji3)
 case neg =>
  rw [if_neg c4] at H
  exact absurd H (by simp)
 rw [if_pos c4] at H
 have c4b0 := eq_true c4
 have c4b1 : decide (0 ≤ (ji3)) = true := decide_eq_true c4
 clear c4
 by_cases c5 : (ji3) ≤ (y242.length : Int)
 case neg =>
  rw [if_neg c5] at H
  exact absurd H (by simp)
 rw [if_pos c5] at H
 have c5b0 := eq_true c5
 have c5b1 : decide ((ji3) ≤ (y242.length : Int)) = true := decide_eq_true c5
 clear c5
 obtain ⟨y245, hy245⟩ : ∃ y_ : List ByteArray, y_ = (y242.take ((ji3) : Int).toNat) := ⟨_, rfl⟩
 replace H : (if y239.length + y245.length < 8796093022208 then ((spec_l1Below.f s0_0 t237 t238 21).bind fun bt252 => ((spec_l1Below.f s0_0 bt252.2.1 bt252.2.2 4).bind fun bt256 => (spec_l24Right.l0 k ji3 bt256.1 0 s0_0 bt256.2.1 bt256.2.2 (y239 ++ y245) (wrap64 (50 * (wrap64 (bt252.1 - 10)))) ([] : List (S68))))) else (none)) = some (r1, r2, r3, r4, r5, r6) := by first | (rw [hy245]; with_reducible exact H) | (have H2_ := (Option.bind_some _ _).symm.trans H; rw [hy245]; with_reducible exact H2_) | (have H2_ := (Option.bind_some _ _).symm.trans H; with_reducible exact H2_) | with_reducible exact H | (rw [hy245]; exact H) | exact H
 have Ny245 := Aside0.mk hy245
 clear hy245
 by_cases c6 : y239.length + y245.length < 8796093022208
 case neg =>
  rw [if_neg c6] at H
  exact absurd H (by simp)
 rw [if_pos c6] at H
 have LMc6 := Aside0.mk c6
 clear c6
 obtain ⟨y249, hy249⟩ : ∃ y_ : List ByteArray, y_ = (y239 ++ y245) := ⟨_, rfl⟩
 replace H : ((spec_l1Below.f s0_0 t237 t238 21).bind fun bt252 => ((spec_l1Below.f s0_0 bt252.2.1 bt252.2.2 4).bind fun bt256 => (spec_l24Right.l0 k ji3 bt256.1 0 s0_0 bt256.2.1 bt256.2.2 y249 (wrap64 (50 * (wrap64 (bt252.1 - 10)))) ([] : List (S68))))) = some (r1, r2, r3, r4, r5, r6) := by first | (rw [hy249]; with_reducible exact H) | (have H2_ := (Option.bind_some _ _).symm.trans H; rw [hy249]; with_reducible exact H2_) | (have H2_ := (Option.bind_some _ _).symm.trans H; with_reducible exact H2_) | with_reducible exact H | (rw [hy249]; exact H) | exact H
 have Ny249 := Aside0.mk hy249
 clear hy249
 replace H := Option.bind_eq_some_iff.mp H
 obtain ⟨⟨t252, t253, t254⟩, A70, H⟩ := H
 replace H : ((spec_l1Below.f s0_0 t253 t254 4).bind fun bt256 => (spec_l24Right.l0 k ji3 bt256.1 0 s0_0 bt256.2.1 bt256.2.2 y249 (wrap64 (50 * (wrap64 (t252 - 10)))) ([] : List (S68)))) = some (r1, r2, r3, r4, r5, r6) := H
 have A7 := Aside0.mk A70
 clear A70
 replace H := Option.bind_eq_some_iff.mp H
 obtain ⟨⟨t256, t257, t258⟩, A80, H⟩ := H
 replace H : (spec_l24Right.l0 k ji3 t256 0 s0_0 t257 t258 y249 (wrap64 (50 * (wrap64 (t252 - 10)))) ([] : List (S68))) = some (r1, r2, r3, r4, r5, r6) := H
 have A8 := Aside0.mk A80
 clear A80
 have H' := Aside0.mk H
 clear H
 go_enter Try.func120, Try.ntmps120
 go_wp2_with (first | ((with_reducible refine gate_dst (N := 2) rfl ?_); refine box_event ?hg (N := 2) ?hd (cs := #[.slice none 0 0, .slice none 0 0, .int .i64 0, .slice none 0 0]) (t := 46) ?hr ?_; (case hd => rfl); (case hg => rfl); (case hr => exact g10); intro gb235 hg w9 hbox hb; have n_ := spec_l24Right.K8_ (IsS105.below (g29 HI0.out) hb) (KeepBut.trans (g31 HK.out) (KeepBut.of_below hb g none) (.inl rfl)) (below_step (g30 HB.out HI0.out) hb) hbox ((by rw [hg]; exact (keep_size (w := w) (g := g) (row := none) (g31 HK.out)) : w.heap.size ≤ gb235)) ((Nat.le_trans HW0.out (by rw [hg]; exact (keep_size (w := w) (g := g) (row := none) (g31 HK.out)) : w.heap.size ≤ gb235) : w0.heap.size ≤ gb235)) ((by rw [hg]; exact Nat.ne_of_lt (IsS105.lt (show IsS105 w0 _ g s0_0 s0_1 s0_2 from by repeat (first | (with_reducible first | exact HI0.out | apply IsS105.alloc | apply IsS105.drewN | apply IsS105.drew | apply IsS105.set_1 | apply IsS105.set_2) | exact HI0.out))) : g ≠ gb235)) ((by rw [hg]; exact Nat.ne_of_gt (IsS105.lt (show IsS105 w0 _ g s0_0 s0_1 s0_2 from by repeat (first | (with_reducible first | exact HI0.out | apply IsS105.alloc | apply IsS105.drewN | apply IsS105.drew | apply IsS105.set_1 | apply IsS105.set_2) | exact HI0.out))) : gb235 ≠ g)); clear HI0 HK HB; obtain ⟨HI0, HK, HB, BK235, GW235, GE235, NB0_235, NB235_0⟩ := n_; clear hb hbox hg) | ((with_reducible refine gate_callee (f := 101) rfl ?_); refine goesL_ (some 9) rfl rfl Try.func101 (by kernel_rfl) rfl #[.pointer (some ⟨g, 0, none⟩), .int .i64 3] rfl (g9) ?_; (with_reducible refine (spec_l1Below.calls g s0_0 s0_1 s0_2 3 t236 t237 t238 w0 _ ?side1 ?side2 A2.out).mono ?_); (case side1 => exact g39 HI0.out NB0_235.out); (case side2 => exact g40 HB.out HI0.out GE235.out); rintro e w10 ⟨rfl, hi, hb, hk⟩; refine ⟨_, rfl, ?_⟩; have n_ := spec_l24Right.K4_ (KeepBut.blk hk (g' := gb235) (o := .cells #[.slice none 0 0, .slice none 0 0, .int .i64 0, .slice none 0 0] 46 (0, 0)) (g2 BK235.out) NB235_0.out (by simp)) (KeepBut.trans (g41 HK.out GW235.out) hk (.inl rfl)) hb hi; clear BK235 HK HB HI0; obtain ⟨BK235, HK, HB, HI0⟩ := n_; (try clear hb); (try clear hb2); (try clear hk); (try clear hi)) | ((with_reducible refine gate_dst (N := 11) rfl ?_); refine Kd.R_lit Kd.string _ 9 ?hg (N := 11) ?hd (xs := ([] : List ByteArray)) (inner := []) (ok := fun _ => True) (okp := fun _ => True) ?hr ?hp (fun _ hk => hk) trivial (Below.refl _ _) (Nat.le_refl _) (by simp) ?_; (case hd => rfl); (case hg => rfl); (case hr => exact g10); (case hp => exact (Reps.none _ _)); intro v240 w11 ho12 hb hg_ hnew_; clear hg_ hnew_; (first | rw [← Ny239.out] at ho12 | (simp only [Int.reduceToNat] at ho12; rw [← Ny239.out] at ho12)); have n_ := spec_l24Right.K5_ (Kd.R_lower ho12 (keep_size (w := w) (g := g) (row := none) (g41 HK.out GW235.out))) (IsS105.below (g39 HI0.out NB0_235.out) hb) (blk_below (g := gb235) (o := .cells #[.slice none 0 0, .slice none 0 0, .int .i64 0, .slice none 0 0] 46 (0, 0)) (g2 BK235.out) hb) (KeepBut.trans (g41 HK.out GW235.out) (KeepBut.of_below hb g none) (.inl rfl)) (below_step (g40 HB.out HI0.out GE235.out) hb); clear HI0 BK235 HK HB; obtain ⟨HO241, HI0, BK235, HK, HB⟩ := n_; clear hb ho12) | ((with_reducible refine gate_dst (N := 12) rfl ?_); refine Kd.R_lit Kd.string _ 9 ?hg (N := 12) ?hd (xs := ([(⟨#[97]⟩ : ByteArray), (⟨#[98]⟩ : ByteArray), (⟨#[99, 50]⟩ : ByteArray)] : List ByteArray)) (inner := [.string (⟨#[97]⟩ : ByteArray), .string (⟨#[98]⟩ : ByteArray), .string (⟨#[99, 50]⟩ : ByteArray)]) (ok := fun _ => True) (okp := fun _ => True) ?hr ?hp (fun _ hk => hk) trivial (Below.refl _ _) (Nat.le_refl _) (by simp) ?_; (case hd => rfl); (case hg => rfl); (case hr => exact g10); (case hp => exact (Reps.one (show Kd.M Kd.string _ _ _ (⟨#[97]⟩ : ByteArray) [.string (⟨#[97]⟩ : ByteArray)] from rfl) (Reps.one (show Kd.M Kd.string _ _ _ (⟨#[98]⟩ : ByteArray) [.string (⟨#[98]⟩ : ByteArray)] from rfl) (Reps.one (show Kd.M Kd.string _ _ _ (⟨#[99, 50]⟩ : ByteArray) [.string (⟨#[99, 50]⟩ : ByteArray)] from rfl) (Reps.none _ _))))); intro v243 w13 ho14 hb hg_ hnew_; clear hg_ hnew_; (first | rw [← Ny242.out] at ho14 | (simp only [Int.reduceToNat] at ho14; rw [← Ny242.out] at ho14)); have n_ := spec_l24Right.K6_ (Kd.R_elder' (g1 HO241.out) (Kd.R_base ho14) hb) (Kd.R_lower (Kd.R_new' ho14 (Kd.R_lt (g1 HO241.out))) (keep_size (w := w) (g := g) (row := none) (g41 HK.out GW235.out))) (IsS105.below (g39 HI0.out NB0_235.out) hb) (blk_below (g := gb235) (o := .cells #[.slice none 0 0, .slice none 0 0, .int .i64 0, .slice none 0 0] 46 (0, 0)) (g2 BK235.out) hb) (KeepBut.trans (g41 HK.out GW235.out) (KeepBut.of_below hb g none) (.inl rfl)) (below_step (g40 HB.out HI0.out GE235.out) hb); clear HO241 HI0 BK235 HK HB; obtain ⟨HO241, HO244, HI0, BK235, HK, HB⟩ := n_; clear hb ho14; obtain ⟨Ao16, co16, eo16⟩ := Kd.R_slice HO244.out; subst eo16; have q15 : ((ji3) : Int) ≤ ((y242.length : Int) : Int) := of_decide_eq_true (g6); obtain ⟨i015, hi015, _, hsz15, _⟩ := info_parts info9; have hroom15 : y242.length ≤ co16 := (Kd.R_reads' HO244.out).2.1; have hC15 : Kd.C Kd.string _ Ao16 y242.length y242 := (Kd.R_reads' HO244.out).2.2; have hcut15 := cut_to (P := Try.prog) 24 9 .i64 Try.underlying24 hi015 Ao16 y242.length co16 (ji3) (of_decide_eq_true (g6)) q15 hroom15; have hr15 := Kd.C_take (m := ((ji3) : Int).toNat) hC15 (by omega); have hy15 : y245.length = ((ji3) : Int).toNat := (by rw [Ny245.out, List.length_take]; omega); rw [← Ny245.out] at hr15; rw [← hy15] at hcut15; have HR248 := Aside0.mk hr15; have HC248 := Aside0.mk (show y245.length ≤ co16 from by omega); clear hr15 hC15 hroom15 hi015 hsz15; have KY15 := Aside0.mk hy15; clear hy15; have KL15 := Aside0.mk (show ((ji3) : Int).toNat ≤ y242.length from by omega); replace q15 := eq_true q15) | ((with_reducible refine gate_builtin (b := .append) (xs := #[.tmp 11, .tmp 14]) rfl ?_); at_builtin; refine Kd.R_append_rows Kd.string w.heap.size rfl (.tmp 11) (.tmp 14) 24 9 (.string ⟨#[]⟩) 16 rfl Try.underlying24 info9 rfl (by decide) (by omega) v240 y239 y245 _ _ _ (fun k_ => some k_ ≠ (.slice Ao16 y242.length co16 : Value).ownBlock) (fun _ => False) rfl rfl ?aO ?aR (fun _ _ h => h) (fun _ h => h.elim) ?aF (Below.refl _ _) ?aS ?aL ?_; (case aR => exact g19 HR248.out); (case aF => exact (fun k_ hk => Kd.fresh' (Kd.R_lt (g1 HO244.out)) k_ hk)); (case aO => exact (by (with_reducible repeat (first | apply Kd.R_alloc | apply Kd.R_drewN | apply Kd.R_drew)); exact Kd.R_mono HO241.out (fun _ hk => hk.2))); (case aS => exact (keep_size (w := w) (g := g) (row := none) (g41 HK.out GW235.out))); (case aL => have := LMc6.out; omega); intro v250 w17 ho hb hg hat; rw [← Ny249.out] at ho; have n_ := spec_l24Right.K7_ (IsS105.grown (g39 HI0.out NB0_235.out) hg (IsS105.own_ne HI0.out HO241.out (by decide))) (blk_grown (g := gb235) (o := .cells #[.slice none 0 0, .slice none 0 0, .int .i64 0, .slice none 0 0] 46 (0, 0)) (g2 BK235.out) hg (Kd.R_ne HO241.out BK235.out (by decide))) (Kd.R_after (ok := (fun _ => True)) (g1 HO244.out) hg hat) (below_weaken (g40 HB.out HI0.out GE235.out) HL.out hb) (KeepBut.trans (g41 HK.out GW235.out) (KeepBut.of_grown hg g) (Kd.R_base2 HO241.out)) ((show Kd.C Kd.string w17 Ao16 y245.length y245 from by rw [Ny245.out]; exact Kd.C_take (m := ((ji3) : Int).toNat) ((Kd.R_reads' (Kd.R_after (ok := (fun _ => True)) (g1 HO244.out) hg hat)).2.2) KL15.out)) ho; clear HI0 BK235 HO244 HB HK HR248 HO241; obtain ⟨HI0, BK235, HO244, HB, HK, HR248, HO251⟩ := n_; clear ho hb hg hat) | ((with_reducible refine gate_callee (f := 101) rfl ?_); refine goesL_ (some 17) rfl rfl Try.func101 (by kernel_rfl) rfl #[.pointer (some ⟨g, 0, none⟩), .int .i64 21] rfl (g9) ?_; (with_reducible refine (spec_l1Below.calls g s0_0 t237 t238 21 t252 t253 t254 w0 _ ?side1 ?side2 A7.out).mono ?_); (case side1 => exact g39 HI0.out NB0_235.out); (case side2 => exact g40 HB.out HI0.out GE235.out); rintro e w18 ⟨rfl, hi, hb, hk⟩; refine ⟨_, rfl, ?_⟩; have n_ := spec_l24Right.K6_ (KeepBut.blk hk (g' := gb235) (o := .cells #[.slice none 0 0, .slice none 0 0, .int .i64 0, .slice none 0 0] 46 (0, 0)) (g2 BK235.out) NB235_0.out (by simp)) (Kd.R_mono (Kd.R_keep (IsS105.apart (show IsS105 w0 _ g s0_0 t237 t238 from by repeat (first | (with_reducible first | exact HI0.out | apply IsS105.alloc | apply IsS105.drewN | apply IsS105.drew | apply IsS105.set_1 | apply IsS105.set_2 | refine IsS105.far ?_ NB0_235.out _) | exact HI0.out)) (g1 HO244.out) (by decide)) hk (fun _ h => h.2)) (fun _ h => h.1)) (Kd.R_mono (Kd.R_keep (IsS105.apart (show IsS105 w0 _ g s0_0 t237 t238 from by repeat (first | (with_reducible first | exact HI0.out | apply IsS105.alloc | apply IsS105.drewN | apply IsS105.drew | apply IsS105.set_1 | apply IsS105.set_2 | refine IsS105.far ?_ NB0_235.out _) | exact HI0.out)) (g1 HO251.out) (by decide)) hk (fun _ h => h.2)) (fun _ h => h.1)) (KeepBut.trans (g41 HK.out GW235.out) hk (.inl rfl)) hb hi; clear BK235 HO244 HO251 HK HB HI0; obtain ⟨BK235, HO244, HO251, HK, HB, HI0⟩ := n_; (try clear hb); (try clear hb2); (try clear hk); (try clear hi); obtain ⟨Ao19, co19, eo19⟩ := Kd.R_slice HO251.out; subst eo19) | ((with_reducible refine gate_dst (N := 4) rfl ?_); refine box_event ?hg (N := 4) ?hd (cs := #[.slice none 0 0, .slice none 0 0, .int .i64 0, .slice none 0 0]) (t := 46) ?hr ?_; (case hd => rfl); (case hg => rfl); (case hr => exact g10); intro gb255 hg w20 hbox hb; have n_ := spec_l24Right.K13_ (Kd.R_below (g1 HO244.out) hb) (Kd.R_below (g1 HO251.out) hb) (IsS105.below (g39 HI0.out NB0_235.out) hb) (blk_below (g := gb235) (o := .cells #[.slice none 0 0, .slice none 0 0, .int .i64 0, .slice none 0 0] 46 (0, 0)) (g2 BK235.out) hb) (KeepBut.trans (g41 HK.out GW235.out) (KeepBut.of_below hb g none) (.inl rfl)) (below_step (g40 HB.out HI0.out GE235.out) hb) hbox ((by rw [hg]; exact (keep_size (w := w) (g := g) (row := none) (g41 HK.out GW235.out)) : w.heap.size ≤ gb255)) ((Nat.le_trans HW0.out (by rw [hg]; exact (keep_size (w := w) (g := g) (row := none) (g41 HK.out GW235.out)) : w.heap.size ≤ gb255) : w0.heap.size ≤ gb255)) ((by rw [hg]; exact Nat.ne_of_lt (blk_lt (g := gb235) (o := .cells #[.slice none 0 0, .slice none 0 0, .int .i64 0, .slice none 0 0] 46 (0, 0)) (g2 BK235.out)) : gb235 ≠ gb255)) ((by rw [hg]; exact Nat.ne_of_gt (blk_lt (g := gb235) (o := .cells #[.slice none 0 0, .slice none 0 0, .int .i64 0, .slice none 0 0] 46 (0, 0)) (g2 BK235.out)) : gb255 ≠ gb235)) ((by rw [hg]; exact Nat.ne_of_lt (IsS105.lt (show IsS105 w0 _ g s0_0 t253 t254 from by repeat (first | (with_reducible first | exact HI0.out | apply IsS105.alloc | apply IsS105.drewN | apply IsS105.drew | apply IsS105.set_1 | apply IsS105.set_2 | refine IsS105.far ?_ NB0_235.out _) | exact HI0.out))) : g ≠ gb255)) ((by rw [hg]; exact Nat.ne_of_gt (IsS105.lt (show IsS105 w0 _ g s0_0 t253 t254 from by repeat (first | (with_reducible first | exact HI0.out | apply IsS105.alloc | apply IsS105.drewN | apply IsS105.drew | apply IsS105.set_1 | apply IsS105.set_2 | refine IsS105.far ?_ NB0_235.out _) | exact HI0.out))) : gb255 ≠ g)); clear HO244 HO251 HI0 BK235 HK HB; obtain ⟨HO244, HO251, HI0, BK235, HK, HB, BK255, GW255, GE255, NB235_255, NB255_235, NB0_255, NB255_0⟩ := n_; clear hb hbox hg; have hnb21 := NB255_235.out; have hnc21 := NB235_255.out; have hnb22 := NB255_0.out; have hnc22 := NB0_255.out; have hcz23_0 : w20.cell? ⟨gb255, 0, none⟩ = some (.slice none 0 0) := (blk_cell BK255.out 0).trans rfl; have hcz23_1 : w20.cell? ⟨gb255, 1, none⟩ = some (.slice none 0 0) := (blk_cell BK255.out 1).trans rfl; have hcz23_2 : w20.cell? ⟨gb255, 2, none⟩ = some (.int .i64 0) := (blk_cell BK255.out 2).trans rfl; have hcz23_3 : w20.cell? ⟨gb255, 3, none⟩ = some (.slice none 0 0) := (blk_cell BK255.out 3).trans rfl; have hfz23_0 := blk_frozen BK255.out 0; have hfz23_1 := blk_frozen BK255.out 1; have hfz23_2 := blk_frozen BK255.out 2; have hfz23_3 := blk_frozen BK255.out 3) | ((with_reducible refine gate_callee (f := 101) rfl ?_); refine goesL_ (some 22) rfl rfl Try.func101 (by kernel_rfl) rfl #[.pointer (some ⟨g, 0, none⟩), .int .i64 4] rfl (g9) ?_; (with_reducible refine (spec_l1Below.calls g s0_0 t253 t254 4 t256 t257 t258 w0 _ ?side1 ?side2 A8.out).mono ?_); (case side1 => exact g42 HI0.out NB0_235.out NB0_255.out); (case side2 => exact g43 HB.out HI0.out GE235.out GE255.out); rintro e w24 ⟨rfl, hi, hb, hk⟩; refine ⟨_, rfl, ?_⟩; have n_ := spec_l24Right.K7_ (KeepBut.blk hk (g' := gb235) (o := .cells #[.slice none 0 0, .slice none 0 0, .int .i64 0, .slice none 0 0] 46 (0, 0)) (g49 NB235_255.out BK235.out) NB235_0.out (by simp)) (Kd.R_mono (Kd.R_keep (IsS105.apart (show IsS105 w0 _ g s0_0 t253 t254 from by repeat (first | (with_reducible first | exact HI0.out | apply IsS105.alloc | apply IsS105.drewN | apply IsS105.drew | apply IsS105.set_1 | apply IsS105.set_2 | refine IsS105.far ?_ NB0_235.out _ | refine IsS105.far ?_ NB0_255.out _) | exact HI0.out)) (by (with_reducible repeat (first | apply Kd.R_alloc | apply Kd.R_drewN | apply Kd.R_drew)); exact (Kd.R_mono (Kd.R_far (p := ⟨gb255, 3, none⟩) (Kd.R_far (p := ⟨gb255, 2, none⟩) (Kd.R_far (p := ⟨gb255, 1, none⟩) (Kd.R_far (p := ⟨gb255, 0, none⟩) (Kd.R_types HO244.out BK255.out (by decide)) (fun _ hk => hk.2) (.slice Ao19 y249.length co19)) (fun _ hk => hk.2) (.slice none 0 0)) (fun _ hk => hk.2) (.int .i64 (wrap64 (50 * (wrap64 (t252 - 10)))))) (fun _ hk => hk.2) (.slice none 0 0)) (fun _ h_ => h_.1))) (by decide)) hk (fun _ h => h.2)) (fun _ h => h.1)) (Kd.R_mono (Kd.R_keep (IsS105.apart (show IsS105 w0 _ g s0_0 t253 t254 from by repeat (first | (with_reducible first | exact HI0.out | apply IsS105.alloc | apply IsS105.drewN | apply IsS105.drew | apply IsS105.set_1 | apply IsS105.set_2 | refine IsS105.far ?_ NB0_235.out _ | refine IsS105.far ?_ NB0_255.out _) | exact HI0.out)) (by (with_reducible repeat (first | apply Kd.R_alloc | apply Kd.R_drewN | apply Kd.R_drew)); exact (Kd.R_mono (Kd.R_far (p := ⟨gb255, 3, none⟩) (Kd.R_far (p := ⟨gb255, 2, none⟩) (Kd.R_far (p := ⟨gb255, 1, none⟩) (Kd.R_far (p := ⟨gb255, 0, none⟩) (Kd.R_types HO251.out BK255.out (by decide)) (fun _ hk => hk.2) (.slice Ao19 y249.length co19)) (fun _ hk => hk.2) (.slice none 0 0)) (fun _ hk => hk.2) (.int .i64 (wrap64 (50 * (wrap64 (t252 - 10)))))) (fun _ hk => hk.2) (.slice none 0 0)) (fun _ h_ => h_.1))) (by decide)) hk (fun _ h => h.2)) (fun _ h => h.1)) (KeepBut.blk hk (g' := gb255) (o := .cells #[.slice Ao19 y249.length co19, .slice none 0 0, .int .i64 (wrap64 (50 * (wrap64 (t252 - 10)))), .slice none 0 0] 46 (0, 0)) (by (with_reducible repeat (first | refine blk_drewN ?_ _ | refine blk_drew ?_ | refine blk_alloc ?_ _)); refine blk_put (cs := #[.slice Ao19 y249.length co19, .slice none 0 0, .int .i64 (wrap64 (50 * (wrap64 (t252 - 10)))), .slice none 0 0]) ?_ 3 _ rfl; (with_reducible repeat (first | refine blk_drewN ?_ _ | refine blk_drew ?_ | refine blk_alloc ?_ _)); refine blk_put (cs := #[.slice Ao19 y249.length co19, .slice none 0 0, .int .i64 0, .slice none 0 0]) ?_ 2 _ rfl; (with_reducible repeat (first | refine blk_drewN ?_ _ | refine blk_drew ?_ | refine blk_alloc ?_ _)); refine blk_put (cs := #[.slice Ao19 y249.length co19, .slice none 0 0, .int .i64 0, .slice none 0 0]) ?_ 1 _ rfl; (with_reducible repeat (first | refine blk_drewN ?_ _ | refine blk_drew ?_ | refine blk_alloc ?_ _)); refine blk_put (cs := #[.slice none 0 0, .slice none 0 0, .int .i64 0, .slice none 0 0]) ?_ 0 _ rfl; (with_reducible repeat (first | refine blk_drewN ?_ _ | refine blk_drew ?_ | refine blk_alloc ?_ _)); exact BK255.out) NB255_0.out (by simp)) (KeepBut.trans (g44 HK.out GW235.out GW255.out) hk (.inl rfl)) hb hi; clear BK235 HO244 HO251 BK255 HK HB HI0; obtain ⟨BK235, HO244, HO251, BK255, HK, HB, HI0⟩ := n_; (try clear hb); (try clear hb2); (try clear hk); (try clear hi)))
 go_loopg [6] k (fun kq v6 w' => ∃ (x6_1 : Int) (x1001_1 : Int) (x1002_1 : Int) (x256003_1 : List (S68)) (u256003 : Value), v6 = .int .i64 x6_1 ∧ Aside0 (spec_l24Right.l0 kq ji3 t256 x6_1 s0_0 x1001_1 x1002_1 y249 (wrap64 (50 * (wrap64 (t252 - 10)))) x256003_1 = some (r1, r2, r3, r4, r5, r6)) ∧ Aside0 (kq ≤ k) ∧ Aside0 (Kd.R Kd.string 9 w' w.heap.size (fun _ => True) (.slice Ao19 y249.length co19) y249) ∧ Aside0 (Kd.S k68 68 w' w.heap.size (fun _ => True) u256003 x256003_1) ∧ Aside0 (w'.heap[gb235]? = some (.cells #[(.slice none 0 0), (.slice none 0 0), .int .i64 0, (.slice none 0 0)] 46 (0, 0))) ∧ Aside0 (w'.heap[gb255]? = some (.cells #[(.slice Ao19 y249.length co19), (.slice none 0 0), .int .i64 (wrap64 (50 * (wrap64 (t252 - 10)))), u256003] 46 (0, 0))) ∧ Aside0 (IsS105 w0 w' g s0_0 x1001_1 x1002_1) ∧ Aside0 (KeepBut w w' g none) ∧ Aside0 (Below w0.heap.size w0 w'))
 case atStart => exact ⟨(0), (t257), (t258), (([] : List (S68))), (.slice none 0 0), (g0), H', ⟨Nat.le_refl _⟩, ⟨by (with_reducible repeat (first | apply Kd.R_alloc | apply Kd.R_drewN | apply Kd.R_drew)); exact Kd.R_mono HO251.out (fun _ hk => trivial)⟩, ⟨by first | exact Kd.S_nil _ _ _ _ _ | exact Kd.N_nil _ _ _ _ _ | exact Kd.V_nil _ _ _ _ _ | exact Kd.Q_nil _ _ _ _ _ | exact Kd.R_nil _ _ _ _ _⟩, ⟨g2 BK235.out⟩, ⟨g2 BK255.out⟩, ⟨g42 HI0.out NB0_235.out NB0_255.out⟩, ⟨g44 HK.out GW235.out GW255.out⟩, ⟨g43 HB.out HI0.out GE235.out GE255.out⟩⟩
 case round =>
  clear H'
  try clear c1
  try clear q1
  try clear c2
  try clear p2
  try clear c4
  try clear c4b0
  try clear c4b1
  try clear c5
  try clear c5b0
  try clear c5b1
  try clear c6
  try clear p6
  try clear c10
  try clear c12
  try clear q15
  try clear c21
  try clear c22
  try clear hcz23_0
  try clear hcz23_1
  try clear hcz23_2
  try clear hcz23_3
  try clear hfz23_0
  try clear hfz23_1
  try clear hfz23_2
  try clear hfz23_3
  try clear q15
  obtain ⟨x6_1, x1001_1, x1002_1, x256003_1, u256003, rfl, HA, HK1, HO_256000, HO_256003, BK235, BK255, HI0, HK, HB⟩ := hrel
  cases gk with
  | zero => exact absurd HA.out (by simp [spec_l24Right.l0])
  | succ k1 =>
   have H := HA.out
   clear HA
   simp only [spec_l24Right.l0] at H
   by_cases c25 : x6_1 < t256
   case pos =>
    rw [if_pos c25] at H
    have c25b0 : decide (x6_1 < t256) = true := decide_eq_true c25
    clear c25
    replace H := Option.bind_eq_some_iff.mp H
    obtain ⟨⟨t259, t262, t263⟩, A260, H⟩ := H
    replace H : (if x256003_1.length < 5864062014805 then (spec_l24Right.l0 k1 ji3 t256 (wrap64 (x6_1 + 1)) s0_0 t262 t263 y249 (wrap64 (50 * (wrap64 (t252 - 10)))) (x256003_1 ++ [(⟨t259⟩ : S68)])) else (none)) = some (r1, r2, r3, r4, r5, r6) := H
    have A26 := Aside0.mk A260
    clear A260
    by_cases c27 : x256003_1.length < 5864062014805
    case neg =>
     rw [if_neg c27] at H
     exact absurd H (by simp)
    rw [if_pos c27] at H
    have LMc27 := Aside0.mk c27
    clear c27
    obtain ⟨y264, hy264⟩ : ∃ y_ : List (S68), y_ = (x256003_1 ++ [(⟨t259⟩ : S68)]) := ⟨_, rfl⟩
    replace H : (spec_l24Right.l0 k1 ji3 t256 (wrap64 (x6_1 + 1)) s0_0 t262 t263 y249 (wrap64 (50 * (wrap64 (t252 - 10)))) y264) = some (r1, r2, r3, r4, r5, r6) := by first | (rw [hy264]; with_reducible exact H) | (have H2_ := (Option.bind_some _ _).symm.trans H; rw [hy264]; with_reducible exact H2_) | (have H2_ := (Option.bind_some _ _).symm.trans H; with_reducible exact H2_) | with_reducible exact H | (rw [hy264]; exact H) | exact H
    have Ny264 := Aside0.mk hy264
    clear hy264
    have H' := Aside0.mk H
    clear H
    try go_wp2
    have n_ := spec_l24Right.K7_ (Kd.R_drew HO_256000.out) (Kd.S_drew HO_256003.out) (blk_drew BK235.out) (blk_drew BK255.out) (IsS105.drew HI0.out) (keep_drew HK.out) (below_drew1 HB.out)
    clear HO_256000 HO_256003 BK235 BK255 HI0 HK HB
    obtain ⟨HO_256000, HO_256003, BK235, BK255, HI0, HK, HB⟩ := n_
    refine start_ (n := 9) (S := fun w' => w'.cell? ⟨gb255, 0, none⟩ = some (.slice Ao19 y249.length co19) ∧ w'.cell? ⟨gb255, 1, none⟩ = some (.slice none 0 0) ∧ w'.cell? ⟨gb255, 2, none⟩ = some (.int .i64 (wrap64 (50 * (wrap64 (t252 - 10))))) ∧ w'.cell? ⟨gb255, 3, none⟩ = some (u256003)) (ds := [8]) spec_l24Right.b0_ (by kernel_rfl) rfl rfl ⟨(blk_cell BK255.out 0).trans rfl, (blk_cell BK255.out 1).trans rfl, (blk_cell BK255.out 2).trans rfl, (blk_cell BK255.out 3).trans rfl⟩ (fun hHeld => ?_); refine with_tabW spec_l24Right.tab7 spec_l24Right.bits7 (fun HT_ HW_ => ?_)
    generalize wr.drew = w28 at HO_256000 HO_256003 BK235 BK255 HI0 HK HB hHeld ⊢
    refine pure_ (i := 0) (N := some 28) (v := ?_) (a' := ?_) spec_l24Right.b1_ rfl rfl (any_of HT_.out (by kernel_rfl)) (fun _ _ _ h => h) (Or.inl ⟨by rfl, ?_⟩) ?_ ?_
    rotate_left
    ·intro w'
     go_simp
     with_reducible rfl
    rotate_left
    ·exact ga0
    refine pure_ (i := 2) (N := some 30) (v := ?_) (a' := ?_) spec_l24Right.b2_ rfl rfl (any_of HT_.out (by kernel_rfl)) (fun _ _ _ h => h) (Or.inl ⟨by rfl, ?_⟩) ?_ ?_
    rotate_left
    ·intro w'
     go_simp
     with_reducible rfl
    rotate_left
    ·exact ga0
    refine pure_ (i := 3) (N := some 31) (v := ?_) (a' := ?_) #[true, false, true, true, false, false, false, false, false] rfl rfl (any_of HT_.out (by kernel_rfl)) (fun _ _ _ h => h) (Or.inl ⟨by rfl, ?_⟩) ?_ ?_
    rotate_left
    ·intro w'
     go_simp
     with_reducible rfl
    rotate_left
    ·exact ga0
    refine take_ (i := 1) (N := some 29) (v := ?_) (a' := ?_) spec_l24Right.b3_ rfl rfl (take_ofW HT_.out HW_.out (by kernel_rfl)) (fun _ _ _ h => h) (Or.inl ⟨by rfl, ?_⟩) hHeld ?_ ?_
    rotate_left
    ·rintro w' ⟨s0, s1, s2, s3⟩
     go_simp
     with_reducible rfl
    rotate_left
    ·exact ga0
    refine one_ (i := 4) (N := some 32) spec_l24Right.b4_ rfl rfl (one_of HT_.out (by kernel_rfl)) (by decide) (fun K hK => ?_)
    refine goes_ Try.func148 (by kernel_rfl) rfl #[.pointer (some ⟨g, 0, none⟩), .int .i64 ji3] (by rfl) rfl rfl (by (try simp only [List.map_toArray, List.map_cons, List.map_nil]); first | done | (simp only [hji3]; rfl) | rfl | (simp only [List.length_drop, List.length_take]; rfl)) ?_
    with_reducible refine (spec_l17Right.calls k1 g s0_0 x1001_1 x1002_1 ji3 t259 t262 t263 w0 _ ?side1 ?side2 A26.out).mono ?_
    (case side1 => exact g42 HI0.out NB0_235.out NB0_255.out)
    (case side2 => exact g43 HB.out HI0.out GE235.out GE255.out)
    rintro e w29 ⟨v260, rfl, ho0, hi, hb, hk⟩
    refine ⟨_, rfl, ?_⟩
    have n_ := spec_l24Right.K8_ (Kd.R_mono (Kd.R_keep (IsS105.apart (show IsS105 w0 _ g s0_0 x1001_1 x1002_1 from by repeat (first | (with_reducible first | exact HI0.out | apply IsS105.alloc | apply IsS105.drewN | apply IsS105.drew | apply IsS105.set_1 | apply IsS105.set_2 | refine IsS105.far ?_ NB0_235.out _ | refine IsS105.far ?_ NB0_255.out _) | exact HI0.out)) (g1 HO_256000.out) (by decide)) hk (fun _ h => h.2)) (fun _ h => h.1)) (Kd.S_mono (Kd.S_told (Kd.S_oldK (IsS105.apartS (show IsS105 w0 _ g s0_0 x1001_1 x1002_1 from by repeat (first | (with_reducible first | exact HI0.out | apply IsS105.alloc | apply IsS105.drewN | apply IsS105.drew | apply IsS105.set_1 | apply IsS105.set_2 | refine IsS105.far ?_ NB0_235.out _ | refine IsS105.far ?_ NB0_255.out _) | exact HI0.out)) (g25 HO_256003.out) (by decide)) hk) (Kd.R_base ho0)) (fun _ h_ => h_.1)) (KeepBut.blk hk (g' := gb235) (o := .cells #[.slice none 0 0, .slice none 0 0, .int .i64 0, .slice none 0 0] 46 (0, 0)) (g2 BK235.out) NB235_0.out (by simp)) (KeepBut.blk hk (g' := gb255) (o := .cells #[.slice Ao19 y249.length co19, .slice none 0 0, .int .i64 (wrap64 (50 * (wrap64 (t252 - 10)))), u256003] 46 (0, 0)) (g2 BK255.out) NB255_0.out (by simp)) (Kd.R_lower ho0 (keep_size (w := w) (g := g) (row := none) (g44 HK.out GW235.out GW255.out))) (KeepBut.trans (g44 HK.out GW235.out GW255.out) hk (.inl rfl)) hb hi
    clear HO_256000 HO_256003 BK235 BK255 HK HB HI0
    obtain ⟨HO_256000, HO_256003, BK235, BK255, HO261, HK, HB, HI0⟩ := n_
    (try clear hb)
    (try clear hb2)
    (try clear hk)
    (try clear hi)
    (try clear ho0)
    obtain ⟨Ao31, co31, eo31⟩ := Kd.R_slice HO261.out
    (first | subst eo31 | (injection eo31 with f1_ f2_ f3_; have f4_ := f1_.symm; have f5_ := f3_.symm; clear f1_ f2_ f3_; subst f4_; subst f5_))
    refine hK.out _ _ ⟨(blk_cell BK255.out 0).trans rfl, (blk_cell BK255.out 1).trans rfl, (blk_cell BK255.out 2).trans rfl, (blk_cell BK255.out 3).trans rfl⟩ (fun hHeld => ?_)
    clear hK K
    refine norm_ (a' := ?_) ?_ ?_
    rotate_left
    ·show Act.put _ (some 32) _ = _
     simp only [Act.put, List.setIfInBounds_toArray, List.set_cons_zero, List.set_cons_succ, i64_w, i32_w]
     rfl
    refine one_ (i := 5) (N := some 33) spec_l24Right.b5_ rfl rfl (one_of HT_.out (by kernel_rfl)) (by decide) (fun K hK => ?_)
    refine value_ (w1 := ?_) (v := ?_) (by rfl) rfl ?_ ?_
    rotate_left 2
    ·go_simp
     constructor
     ·rfl
     ·rfl
    refine hK.out _ _ ⟨(blk_cell (blk_alloc BK255.out _) 0).trans rfl, (blk_cell (blk_alloc BK255.out _) 1).trans rfl, (blk_cell (blk_alloc BK255.out _) 2).trans rfl, (blk_cell (blk_alloc BK255.out _) 3).trans rfl⟩ (fun hHeld => ?_)
    clear hK K
    refine norm_ (a' := ?_) ?_ ?_
    rotate_left
    ·show Act.put _ (some 33) _ = _
     simp only [Act.put, List.setIfInBounds_toArray, List.set_cons_zero, List.set_cons_succ, i64_w, i32_w]
     rfl
    refine one_ (i := 6) (N := some 34) spec_l24Right.b6_ rfl rfl (one_of HT_.out (by kernel_rfl)) (by decide) (fun K hK => ?_)
    refine Kd.S_append_step k68 w.heap.size (by rfl) (.tmp 29) (.tmp 33) 44 68 (.agg #[(.slice none 0 0)]) 24 rfl Try.underlying44 info68 rfl (by decide) (by omega) u256003 x256003_1 (⟨t259⟩ : S68) [.slice Ao31 t259.length co31] (fun _ => True) (fun k_ => some k_ = (.slice Ao31 t259.length co31 : Value).ownBlock) rfl rfl ?aP (fun k_ hk_ => ((Kd.R_mono (ok' := fun k_ => ((fun _ => True)) k_ ∧ some k_ ≠ (u256003 : Value).ownBlock) (Kd.R_apart' (HO261.out) (Kd.S_typed HO_256003.out) (by decide)) (fun k_ hk => ⟨trivial, hk.2⟩))).1 k_ hk_.symm) ?aF ?aO (Below.refl _ _) ?aS ?aL ?_
    (case aP => exact k68_mkM _ _ _ (⟨t259⟩ : S68) (Kd.R_mono (Kd.R_tight rfl (Kd.R_mono (ok' := fun k_ => ((fun _ => True)) k_ ∧ some k_ ≠ (u256003 : Value).ownBlock) (Kd.R_apart' (HO261.out) (Kd.S_typed HO_256003.out) (by decide)) (fun k_ hk => ⟨trivial, hk.2⟩))) (fun _ h_ => h_)))
    (case aF => exact (fun _ _ => trivial))
    (case aO => exact (by (with_reducible repeat (first | apply Kd.S_alloc | apply Kd.S_drewN | apply Kd.S_drew)); exact Kd.S_mono HO_256003.out (fun k_ hk => ⟨trivial, fun e_ => hk.2 e_⟩)))
    (case aS => exact (keep_size (w := w) (g := g) (row := none) (g44 HK.out GW235.out GW255.out)))
    (case aL => have := LMc27.out; omega)
    intro v265 w30 ho hb hg hat
    rw [← Ny264.out] at ho
    have n_ := spec_l24Right.K7_ (Kd.R_over' (g1 HO_256000.out) (Kd.S_typed (g25 HO_256003.out)) (by decide) hg) (blk_grown (g := gb235) (o := .cells #[.slice none 0 0, .slice none 0 0, .int .i64 0, .slice none 0 0] 46 (0, 0)) (g2 BK235.out) hg (Kd.S_ne HO_256003.out BK235.out (by decide))) (blk_grown (g := gb255) (o := .cells #[.slice Ao19 y249.length co19, .slice none 0 0, .int .i64 (wrap64 (50 * (wrap64 (t252 - 10)))), u256003] 46 (0, 0)) (g2 BK255.out) hg (Kd.S_ne HO_256003.out BK255.out (by decide))) (IsS105.grown (g42 HI0.out NB0_235.out NB0_255.out) hg (IsS105.own_neS HI0.out HO_256003.out (by decide))) (below_weaken (g43 HB.out HI0.out GE235.out GE255.out) HL.out hb) (KeepBut.trans (g44 HK.out GW235.out GW255.out) (KeepBut.of_grown hg g) (Kd.S_base2 HO_256003.out)) ho
    clear HO_256000 BK235 BK255 HI0 HB HK HO_256003 HO261
    obtain ⟨HO_256000, BK235, BK255, HI0, HB, HK, HO266⟩ := n_
    clear ho hb hg hat
    obtain ⟨Ao32, co32, eo32⟩ := Kd.S_slice HO266.out
    (first | subst eo32 | (injection eo32 with f1_ f2_ f3_; have f4_ := f1_.symm; have f5_ := f3_.symm; clear f1_ f2_ f3_; subst f4_; subst f5_))
    refine hK.out _ _ ⟨(blk_cell BK255.out 0).trans rfl, (blk_cell BK255.out 1).trans rfl, (blk_cell BK255.out 2).trans rfl, (blk_cell BK255.out 3).trans rfl⟩ (fun hHeld => ?_)
    clear hK K
    refine norm_ (a' := ?_) ?_ ?_
    rotate_left
    ·show Act.put _ (some 34) _ = _
     simp only [Act.put, List.setIfInBounds_toArray, List.set_cons_zero, List.set_cons_succ, i64_w, i32_w]
     rfl
    refine pure_ (i := 7) (N := some 35) (v := ?_) (a' := ?_) spec_l24Right.b7_ rfl rfl (any_of HT_.out (by kernel_rfl)) (fun _ _ _ h => h) (Or.inl ⟨by rfl, ?_⟩) ?_ ?_
    rotate_left
    ·intro w'
     go_simp
     with_reducible rfl
    rotate_left
    ·exact ga0
    refine last_ (i := 8) (N := none) spec_l24Right.b8_ rfl rfl (one_of HT_.out (by kernel_rfl)) (by decide) (fun K hK => ?_)
    have hs33 : w30.cell? ⟨gb255, 3, none⟩ = some (u256003) := (blk_cell BK255.out 3).trans rfl
    have hfs33 := blk_frozen BK255.out 3
    have hns33_0 := NB235_255.out
    have hms33_0 := NB255_235.out
    refine skip_ (w1 := ?_) (by rfl) rfl ?_ ?_
    rotate_left
    ·go_simp
     rfl
    refine hK.out _ _ ?_
    clear hK K
    refine done_ (done_of HT_.out (by kernel_rfl)) ?_
    try go_wp2
    go_roundg k1
    case measure => have := HK1.out; omega
    case rel => exact ⟨(wrap64 (x6_1 + 1)), (t262), (t263), (y264), (.slice Ao32 y264.length co32), (g0), H', ⟨by have := HK1.out; omega⟩, ⟨by (with_reducible repeat (first | apply Kd.R_alloc | apply Kd.R_drewN | apply Kd.R_drew)); exact Kd.R_mono (Kd.R_far (p := ⟨gb255, 3, none⟩) (Kd.R_types HO_256000.out BK255.out (by decide)) (fun _ hk => hk.2) (.slice Ao32 y264.length co32)) (fun _ hk => trivial)⟩, ⟨by (with_reducible repeat (first | apply Kd.S_alloc | apply Kd.S_drewN | apply Kd.S_drew)); exact Kd.S_mono (Kd.S_far (p := ⟨gb255, 3, none⟩) (Kd.S_types HO266.out BK255.out (by decide)) (fun _ hk => hk.2) (.slice Ao32 y264.length co32)) (fun _ hk => trivial)⟩, ⟨g22 NB235_255.out BK235.out⟩, ⟨by (with_reducible repeat (first | refine blk_drewN ?_ _ | refine blk_drew ?_ | refine blk_alloc ?_ _)); refine blk_put (cs := #[.slice Ao19 y249.length co19, .slice none 0 0, .int .i64 (wrap64 (50 * (wrap64 (t252 - 10)))), u256003]) ?_ 3 _ rfl; (with_reducible repeat (first | refine blk_drewN ?_ _ | refine blk_drew ?_ | refine blk_alloc ?_ _)); exact BK255.out⟩, ⟨g42 HI0.out NB0_235.out NB0_255.out⟩, ⟨g44 HK.out GW235.out GW255.out⟩, ⟨g43 HB.out HI0.out GE235.out GE255.out⟩⟩
   rw [if_neg c25] at H
   have c25b0 : decide (x6_1 < t256) = false := decide_eq_false c25
   clear c25
   have H' := Aside0.mk H
   clear H
   go_wp2
   go_loopg [7] k1 (fun kq v7 w' => ∃ (x7_2 : Int) (x1001_2 : Int) (x1002_2 : Int) (x256001_2 : List Int) (u256001 : Value), v7 = .int .i64 x7_2 ∧ Aside0 (spec_l24Right.l1 kq ji3 t256 x7_2 s0_0 x1001_2 x1002_2 y249 x256001_2 (wrap64 (50 * (wrap64 (t252 - 10)))) x256003_1 = some (r1, r2, r3, r4, r5, r6)) ∧ Aside0 (kq ≤ k1) ∧ Aside0 (Kd.R Kd.string 9 w' w.heap.size (fun _ => True) (.slice Ao19 y249.length co19) y249) ∧ Aside0 (Kd.R (Kd.int .i64) 3 w' w.heap.size (fun _ => True) u256001 x256001_2) ∧ Aside0 (Kd.S k68 68 w' w.heap.size (fun _ => True) u256003 x256003_1) ∧ Aside0 (w'.heap[gb235]? = some (.cells #[(.slice none 0 0), (.slice none 0 0), .int .i64 0, (.slice none 0 0)] 46 (0, 0))) ∧ Aside0 (w'.heap[gb255]? = some (.cells #[(.slice Ao19 y249.length co19), u256001, .int .i64 (wrap64 (50 * (wrap64 (t252 - 10)))), u256003] 46 (0, 0))) ∧ Aside0 (IsS105 w0 w' g s0_0 x1001_2 x1002_2) ∧ Aside0 (KeepBut w w' g none) ∧ Aside0 (Below w0.heap.size w0 w'))
   case atStart => exact ⟨(0), (x1001_1), (x1002_1), (([] : List Int)), (.slice none 0 0), (g0), H', ⟨Nat.le_refl _⟩, ⟨g1 HO_256000.out⟩, ⟨by first | exact Kd.R_nil _ _ _ _ _ | exact Kd.N_nil _ _ _ _ _ | exact Kd.V_nil _ _ _ _ _ | exact Kd.Q_nil _ _ _ _ _ | exact Kd.S_nil _ _ _ _ _⟩, ⟨g25 HO_256003.out⟩, ⟨g2 BK235.out⟩, ⟨g2 BK255.out⟩, ⟨g42 HI0.out NB0_235.out NB0_255.out⟩, ⟨g44 HK.out GW235.out GW255.out⟩, ⟨g43 HB.out HI0.out GE235.out GE255.out⟩⟩
   case round =>
    clear H'
    try clear c1
    try clear q1
    try clear c2
    try clear p2
    try clear c4
    try clear c4b0
    try clear c4b1
    try clear c5
    try clear c5b0
    try clear c5b1
    try clear c6
    try clear p6
    try clear c10
    try clear c12
    try clear c14
    try clear q15
    try clear c21
    try clear c22
    try clear c25
    try clear c25b0
    try clear c27
    try clear hcz23_0
    try clear hcz23_1
    try clear hcz23_2
    try clear hcz23_3
    try clear hfz23_0
    try clear hfz23_1
    try clear hfz23_2
    try clear hfz23_3
    try clear p2
    try clear p6
    try clear q1
    try clear q15
    obtain ⟨x7_2, x1001_2, x1002_2, x256001_2, u256001, rfl, HA, HK2, HO_256000, HO_256001, HO_256003, BK235, BK255, HI0, HK, HB⟩ := hrel
    cases gk with
    | zero => exact absurd HA.out (by simp [spec_l24Right.l1])
    | succ k2 =>
     have H := HA.out
     clear HA
     simp only [spec_l24Right.l1] at H
     by_cases c34 : x7_2 < ji3
     case neg =>
      rw [if_neg c34] at H
      have c34b0 : decide (x7_2 < ji3) = false := decide_eq_false c34
      clear c34
      simp only [Option.some.injEq, Prod.mk.injEq] at H
      obtain ⟨rfl, rfl, rfl, rfl, rfl, rfl⟩ := H
      have hnb50 := NB255_235.out
      have hnc50 := NB235_255.out
      have hnb51 := NB255_0.out
      have hnc51 := NB0_255.out
      have hcz52_0 : wr.cell? ⟨gb255, 0, none⟩ = some (.slice Ao19 y249.length co19) := (blk_cell BK255.out 0).trans rfl
      have hcz52_1 : wr.cell? ⟨gb255, 1, none⟩ = some (u256001) := (blk_cell BK255.out 1).trans rfl
      have hcz52_2 : wr.cell? ⟨gb255, 2, none⟩ = some (.int .i64 (wrap64 (50 * (wrap64 (t252 - 10))))) := (blk_cell BK255.out 2).trans rfl
      have hcz52_3 : wr.cell? ⟨gb255, 3, none⟩ = some (u256003) := (blk_cell BK255.out 3).trans rfl
      have hfz52_0 := blk_frozen BK255.out 0
      have hfz52_1 := blk_frozen BK255.out 1
      have hfz52_2 := blk_frozen BK255.out 2
      have hfz52_3 := blk_frozen BK255.out 3
      have hnb53 := NB235_0.out
      have hnc53 := NB0_235.out
      have hcz54_0 : wr.cell? ⟨gb235, 0, none⟩ = some (.slice none 0 0) := (blk_cell BK235.out 0).trans rfl
      have hcz54_1 : wr.cell? ⟨gb235, 1, none⟩ = some (.slice none 0 0) := (blk_cell BK235.out 1).trans rfl
      have hcz54_2 : wr.cell? ⟨gb235, 2, none⟩ = some (.int .i64 0) := (blk_cell BK235.out 2).trans rfl
      have hcz54_3 : wr.cell? ⟨gb235, 3, none⟩ = some (.slice none 0 0) := (blk_cell BK235.out 3).trans rfl
      have hfz54_0 := blk_frozen BK235.out 0
      have hfz54_1 := blk_frozen BK235.out 1
      have hfz54_2 := blk_frozen BK235.out 2
      have hfz54_3 := blk_frozen BK235.out 3
      obtain ⟨Ao55, co55, eo55⟩ := Kd.R_slice HO_256001.out
      subst eo55
      obtain ⟨Ao56, co56, eo56⟩ := Kd.S_slice HO_256003.out
      subst eo56
      go_wp2
      refine bodyPost_ret (results_cell_row rfl _ _ gb235 46 #[.slice Ao19 y249.length co19, .slice Ao55 x256001_2.length co55, .int .i64 (wrap64 (50 * (wrap64 (t252 - 10)))), .slice Ao56 x256003_1.length co56] (0, 0) _ rfl (by (with_reducible repeat (first | refine blk_drewN ?_ _ | refine blk_drew ?_ | refine blk_alloc ?_ _)); refine blk_put (cs := #[.slice Ao19 y249.length co19, .slice Ao55 x256001_2.length co55, .int .i64 (wrap64 (50 * (wrap64 (t252 - 10)))), .slice none 0 0]) ?_ 3 _ rfl; (with_reducible repeat (first | refine blk_drewN ?_ _ | refine blk_drew ?_ | refine blk_alloc ?_ _)); refine blk_put (cs := #[.slice Ao19 y249.length co19, .slice Ao55 x256001_2.length co55, .int .i64 0, .slice none 0 0]) ?_ 2 _ rfl; (with_reducible repeat (first | refine blk_drewN ?_ _ | refine blk_drew ?_ | refine blk_alloc ?_ _)); refine blk_put (cs := #[.slice Ao19 y249.length co19, .slice none 0 0, .int .i64 0, .slice none 0 0]) ?_ 1 _ rfl; (with_reducible repeat (first | refine blk_drewN ?_ _ | refine blk_drew ?_ | refine blk_alloc ?_ _)); refine blk_put (cs := #[.slice none 0 0, .slice none 0 0, .int .i64 0, .slice none 0 0]) ?_ 0 _ rfl; (with_reducible repeat (first | refine blk_drewN ?_ _ | refine blk_drew ?_ | refine blk_alloc ?_ _)); exact BK235.out) Try.underlying46 rfl (by kernel_rfl)) rfl ?_
      exact ⟨_, _, _, by first | rfl | (simp [errW_none, errW_some] <;> rfl) | (simp only [← hji3]; first | rfl | (simp [errW_none, errW_some] <;> rfl)) | (simp [*, errW_none, errW_some] <;> rfl), by (with_reducible repeat (first | apply Kd.R_alloc | apply Kd.R_drewN | apply Kd.R_drew)); exact Kd.R_mono (Kd.R_far (p := ⟨gb235, 3, none⟩) (Kd.R_far (p := ⟨gb235, 2, none⟩) (Kd.R_far (p := ⟨gb235, 1, none⟩) (Kd.R_far (p := ⟨gb235, 0, none⟩) (Kd.R_types HO_256000.out BK235.out (by decide)) (fun _ hk => hk.2) (.slice Ao19 y249.length co19)) (fun _ hk => hk.2) (.slice Ao55 x256001_2.length co55)) (fun _ hk => hk.2) (.int .i64 (wrap64 (50 * (wrap64 (t252 - 10)))))) (fun _ hk => hk.2) (.slice Ao56 x256003_1.length co56)) (fun _ hk => trivial), by (with_reducible repeat (first | apply Kd.R_alloc | apply Kd.R_drewN | apply Kd.R_drew)); exact Kd.R_mono (Kd.R_far (p := ⟨gb235, 3, none⟩) (Kd.R_far (p := ⟨gb235, 2, none⟩) (Kd.R_far (p := ⟨gb235, 1, none⟩) (Kd.R_far (p := ⟨gb235, 0, none⟩) (Kd.R_types HO_256001.out BK235.out (by decide)) (fun _ hk => hk.2) (.slice Ao19 y249.length co19)) (fun _ hk => hk.2) (.slice Ao55 x256001_2.length co55)) (fun _ hk => hk.2) (.int .i64 (wrap64 (50 * (wrap64 (t252 - 10)))))) (fun _ hk => hk.2) (.slice Ao56 x256003_1.length co56)) (fun _ hk => trivial), by (with_reducible repeat (first | apply Kd.S_alloc | apply Kd.S_drewN | apply Kd.S_drew)); exact Kd.S_mono (Kd.S_far (p := ⟨gb235, 3, none⟩) (Kd.S_far (p := ⟨gb235, 2, none⟩) (Kd.S_far (p := ⟨gb235, 1, none⟩) (Kd.S_far (p := ⟨gb235, 0, none⟩) (Kd.S_types HO_256003.out BK235.out (by decide)) (fun _ hk => hk.2) (.slice Ao19 y249.length co19)) (fun _ hk => hk.2) (.slice Ao55 x256001_2.length co55)) (fun _ hk => hk.2) (.int .i64 (wrap64 (50 * (wrap64 (t252 - 10)))))) (fun _ hk => hk.2) (.slice Ao56 x256003_1.length co56)) (fun _ hk => trivial), g42 HI0.out NB0_235.out NB0_255.out, g43 HB.out HI0.out GE235.out GE255.out, g44 HK.out GW235.out GW255.out⟩
     rw [if_pos c34] at H
     have c34b0 : decide (x7_2 < ji3) = true := decide_eq_true c34
     clear c34
     by_cases c35 : (Int.tmod t256 2) = 1
     case neg =>
      rw [if_neg c35] at H
      have c35b0 : ((Int.tmod t256 2) == 1) = false := beq_eq_false_iff_ne.mpr c35
      have c35b1 : ((Int.tmod t256 2) != 1) = true := bne_iff_ne.mpr c35
      simp only [Option.some.injEq, Prod.mk.injEq] at H
      obtain ⟨rfl, rfl, rfl, rfl, rfl, rfl⟩ := H
      have hnb43 := NB255_235.out
      have hnc43 := NB235_255.out
      have hnb44 := NB255_0.out
      have hnc44 := NB0_255.out
      have hcz45_0 : wr.cell? ⟨gb255, 0, none⟩ = some (.slice Ao19 y249.length co19) := (blk_cell BK255.out 0).trans rfl
      have hcz45_1 : wr.cell? ⟨gb255, 1, none⟩ = some (u256001) := (blk_cell BK255.out 1).trans rfl
      have hcz45_2 : wr.cell? ⟨gb255, 2, none⟩ = some (.int .i64 (wrap64 (50 * (wrap64 (t252 - 10))))) := (blk_cell BK255.out 2).trans rfl
      have hcz45_3 : wr.cell? ⟨gb255, 3, none⟩ = some (u256003) := (blk_cell BK255.out 3).trans rfl
      have hfz45_0 := blk_frozen BK255.out 0
      have hfz45_1 := blk_frozen BK255.out 1
      have hfz45_2 := blk_frozen BK255.out 2
      have hfz45_3 := blk_frozen BK255.out 3
      have hnb46 := NB235_0.out
      have hnc46 := NB0_235.out
      have hcz47_0 : wr.cell? ⟨gb235, 0, none⟩ = some (.slice none 0 0) := (blk_cell BK235.out 0).trans rfl
      have hcz47_1 : wr.cell? ⟨gb235, 1, none⟩ = some (.slice none 0 0) := (blk_cell BK235.out 1).trans rfl
      have hcz47_2 : wr.cell? ⟨gb235, 2, none⟩ = some (.int .i64 0) := (blk_cell BK235.out 2).trans rfl
      have hcz47_3 : wr.cell? ⟨gb235, 3, none⟩ = some (.slice none 0 0) := (blk_cell BK235.out 3).trans rfl
      have hfz47_0 := blk_frozen BK235.out 0
      have hfz47_1 := blk_frozen BK235.out 1
      have hfz47_2 := blk_frozen BK235.out 2
      have hfz47_3 := blk_frozen BK235.out 3
      obtain ⟨Ao48, co48, eo48⟩ := Kd.R_slice HO_256001.out
      subst eo48
      obtain ⟨Ao49, co49, eo49⟩ := Kd.S_slice HO_256003.out
      subst eo49
      go_wp2
      refine bodyPost_ret (results_cell_row rfl _ _ gb235 46 #[.slice Ao19 y249.length co19, .slice Ao48 x256001_2.length co48, .int .i64 (wrap64 (50 * (wrap64 (t252 - 10)))), .slice Ao49 x256003_1.length co49] (0, 0) _ rfl (by (with_reducible repeat (first | refine blk_drewN ?_ _ | refine blk_drew ?_ | refine blk_alloc ?_ _)); refine blk_put (cs := #[.slice Ao19 y249.length co19, .slice Ao48 x256001_2.length co48, .int .i64 (wrap64 (50 * (wrap64 (t252 - 10)))), .slice none 0 0]) ?_ 3 _ rfl; (with_reducible repeat (first | refine blk_drewN ?_ _ | refine blk_drew ?_ | refine blk_alloc ?_ _)); refine blk_put (cs := #[.slice Ao19 y249.length co19, .slice Ao48 x256001_2.length co48, .int .i64 0, .slice none 0 0]) ?_ 2 _ rfl; (with_reducible repeat (first | refine blk_drewN ?_ _ | refine blk_drew ?_ | refine blk_alloc ?_ _)); refine blk_put (cs := #[.slice Ao19 y249.length co19, .slice none 0 0, .int .i64 0, .slice none 0 0]) ?_ 1 _ rfl; (with_reducible repeat (first | refine blk_drewN ?_ _ | refine blk_drew ?_ | refine blk_alloc ?_ _)); refine blk_put (cs := #[.slice none 0 0, .slice none 0 0, .int .i64 0, .slice none 0 0]) ?_ 0 _ rfl; (with_reducible repeat (first | refine blk_drewN ?_ _ | refine blk_drew ?_ | refine blk_alloc ?_ _)); exact BK235.out) Try.underlying46 rfl (by kernel_rfl)) rfl ?_
      exact ⟨_, _, _, by first | rfl | (simp [errW_none, errW_some] <;> rfl) | (simp only [← hji3]; first | rfl | (simp [errW_none, errW_some] <;> rfl)) | (simp [*, errW_none, errW_some] <;> rfl), by (with_reducible repeat (first | apply Kd.R_alloc | apply Kd.R_drewN | apply Kd.R_drew)); exact Kd.R_mono (Kd.R_far (p := ⟨gb235, 3, none⟩) (Kd.R_far (p := ⟨gb235, 2, none⟩) (Kd.R_far (p := ⟨gb235, 1, none⟩) (Kd.R_far (p := ⟨gb235, 0, none⟩) (Kd.R_types HO_256000.out BK235.out (by decide)) (fun _ hk => hk.2) (.slice Ao19 y249.length co19)) (fun _ hk => hk.2) (.slice Ao48 x256001_2.length co48)) (fun _ hk => hk.2) (.int .i64 (wrap64 (50 * (wrap64 (t252 - 10)))))) (fun _ hk => hk.2) (.slice Ao49 x256003_1.length co49)) (fun _ hk => trivial), by (with_reducible repeat (first | apply Kd.R_alloc | apply Kd.R_drewN | apply Kd.R_drew)); exact Kd.R_mono (Kd.R_far (p := ⟨gb235, 3, none⟩) (Kd.R_far (p := ⟨gb235, 2, none⟩) (Kd.R_far (p := ⟨gb235, 1, none⟩) (Kd.R_far (p := ⟨gb235, 0, none⟩) (Kd.R_types HO_256001.out BK235.out (by decide)) (fun _ hk => hk.2) (.slice Ao19 y249.length co19)) (fun _ hk => hk.2) (.slice Ao48 x256001_2.length co48)) (fun _ hk => hk.2) (.int .i64 (wrap64 (50 * (wrap64 (t252 - 10)))))) (fun _ hk => hk.2) (.slice Ao49 x256003_1.length co49)) (fun _ hk => trivial), by (with_reducible repeat (first | apply Kd.S_alloc | apply Kd.S_drewN | apply Kd.S_drew)); exact Kd.S_mono (Kd.S_far (p := ⟨gb235, 3, none⟩) (Kd.S_far (p := ⟨gb235, 2, none⟩) (Kd.S_far (p := ⟨gb235, 1, none⟩) (Kd.S_far (p := ⟨gb235, 0, none⟩) (Kd.S_types HO_256003.out BK235.out (by decide)) (fun _ hk => hk.2) (.slice Ao19 y249.length co19)) (fun _ hk => hk.2) (.slice Ao48 x256001_2.length co48)) (fun _ hk => hk.2) (.int .i64 (wrap64 (50 * (wrap64 (t252 - 10)))))) (fun _ hk => hk.2) (.slice Ao49 x256003_1.length co49)) (fun _ hk => trivial), g42 HI0.out NB0_235.out NB0_255.out, g43 HB.out HI0.out GE235.out GE255.out, g44 HK.out GW235.out GW255.out⟩
     rw [if_pos c35] at H
     have c35b0 : ((Int.tmod t256 2) == 1) = true := beq_iff_eq.mpr c35
     have c35b1 : ((Int.tmod t256 2) != 1) = false := bne_eq_false_iff_eq.mpr c35
     clear c35
     replace H := Option.bind_eq_some_iff.mp H
     obtain ⟨⟨t267, t268, t269⟩, A360, H⟩ := H
     replace H : (if x256001_2.length < 17592186044416 then (spec_l24Right.l1 k2 ji3 t256 (wrap64 (x7_2 + 1)) s0_0 t268 t269 y249 (x256001_2 ++ [wrap64 (t267 - 1)]) (wrap64 (50 * (wrap64 (t252 - 10)))) x256003_1) else (none)) = some (r1, r2, r3, r4, r5, r6) := H
     have A36 := Aside0.mk A360
     clear A360
     by_cases c37 : x256001_2.length < 17592186044416
     case neg =>
      rw [if_neg c37] at H
      exact absurd H (by simp)
     rw [if_pos c37] at H
     have LMc37 := Aside0.mk c37
     clear c37
     obtain ⟨y270, hy270⟩ : ∃ y_ : List Int, y_ = (x256001_2 ++ [wrap64 (t267 - 1)]) := ⟨_, rfl⟩
     replace H : (spec_l24Right.l1 k2 ji3 t256 (wrap64 (x7_2 + 1)) s0_0 t268 t269 y249 y270 (wrap64 (50 * (wrap64 (t252 - 10)))) x256003_1) = some (r1, r2, r3, r4, r5, r6) := by first | (rw [hy270]; with_reducible exact H) | (have H2_ := (Option.bind_some _ _).symm.trans H; rw [hy270]; with_reducible exact H2_) | (have H2_ := (Option.bind_some _ _).symm.trans H; with_reducible exact H2_) | with_reducible exact H | (rw [hy270]; exact H) | exact H
     have Ny270 := Aside0.mk hy270
     clear hy270
     have H' := Aside0.mk H
     clear H
     try go_wp2
     have n_ := spec_l24Right.K8_ (Kd.R_drew HO_256000.out) (Kd.R_drew HO_256001.out) (Kd.S_drew HO_256003.out) (blk_drew BK235.out) (blk_drew BK255.out) (IsS105.drew HI0.out) (keep_drew HK.out) (below_drew1 HB.out)
     clear HO_256000 HO_256001 HO_256003 BK235 BK255 HI0 HK HB
     obtain ⟨HO_256000, HO_256001, HO_256003, BK235, BK255, HI0, HK, HB⟩ := n_
     refine start_ (n := 9) (S := fun w' => w'.cell? ⟨gb255, 0, none⟩ = some (.slice Ao19 y249.length co19) ∧ w'.cell? ⟨gb255, 1, none⟩ = some (u256001) ∧ w'.cell? ⟨gb255, 2, none⟩ = some (.int .i64 (wrap64 (50 * (wrap64 (t252 - 10))))) ∧ w'.cell? ⟨gb255, 3, none⟩ = some (u256003)) (ds := [8]) spec_l24Right.b0_ (by kernel_rfl) rfl rfl ⟨(blk_cell BK255.out 0).trans rfl, (blk_cell BK255.out 1).trans rfl, (blk_cell BK255.out 2).trans rfl, (blk_cell BK255.out 3).trans rfl⟩ (fun hHeld => ?_); refine with_tabW spec_l24Right.tab11 spec_l24Right.bits11 (fun HT_ HW_ => ?_)
     generalize wr.drew = w38 at HO_256000 HO_256001 HO_256003 BK235 BK255 HI0 HK HB hHeld ⊢
     refine pure_ (i := 0) (N := some 46) (v := ?_) (a' := ?_) spec_l24Right.b1_ rfl rfl (any_of HT_.out (by kernel_rfl)) (fun _ _ _ h => h) (Or.inl ⟨by rfl, ?_⟩) ?_ ?_
     rotate_left
     ·intro w'
      go_simp
      with_reducible rfl
     rotate_left
     ·exact ga0
     refine pure_ (i := 2) (N := some 48) (v := ?_) (a' := ?_) spec_l24Right.b2_ rfl rfl (any_of HT_.out (by kernel_rfl)) (fun _ _ _ h => h) (Or.inl ⟨by rfl, ?_⟩) ?_ ?_
     rotate_left
     ·intro w'
      go_simp
      with_reducible rfl
     rotate_left
     ·exact ga0
     refine take_ (i := 1) (N := some 47) (v := ?_) (a' := ?_) #[true, true, true, false, false, false, false, false, false] rfl rfl (take_ofW HT_.out HW_.out (by kernel_rfl)) (fun _ _ _ h => h) (Or.inl ⟨by rfl, ?_⟩) hHeld ?_ ?_
     rotate_left
     ·rintro w' ⟨s0, s1, s2, s3⟩
      go_simp
      with_reducible rfl
     rotate_left
     ·exact ga0
     refine one_ (i := 3) (N := some 49) spec_l24Right.b3_ rfl rfl (one_of HT_.out (by kernel_rfl)) (by decide) (fun K hK => ?_)
     refine goes_ Try.func101 (by kernel_rfl) rfl #[.pointer (some ⟨g, 0, none⟩), .int .i64 3] (by rfl) rfl rfl (g9) ?_
     with_reducible refine (spec_l1Below.calls g s0_0 x1001_2 x1002_2 3 t267 t268 t269 w0 _ ?side1 ?side2 A36.out).mono ?_
     (case side1 => exact g42 HI0.out NB0_235.out NB0_255.out)
     (case side2 => exact g43 HB.out HI0.out GE235.out GE255.out)
     rintro e w39 ⟨rfl, hi, hb, hk⟩
     refine ⟨_, rfl, ?_⟩
     have n_ := spec_l24Right.K8_ (Kd.R_mono (Kd.R_keep (IsS105.apart (show IsS105 w0 _ g s0_0 x1001_2 x1002_2 from by repeat (first | (with_reducible first | exact HI0.out | apply IsS105.alloc | apply IsS105.drewN | apply IsS105.drew | apply IsS105.set_1 | apply IsS105.set_2 | refine IsS105.far ?_ NB0_235.out _ | refine IsS105.far ?_ NB0_255.out _) | exact HI0.out)) (g1 HO_256000.out) (by decide)) hk (fun _ h => h.2)) (fun _ h => h.1)) (Kd.R_mono (Kd.R_keep (IsS105.apart (show IsS105 w0 _ g s0_0 x1001_2 x1002_2 from by repeat (first | (with_reducible first | exact HI0.out | apply IsS105.alloc | apply IsS105.drewN | apply IsS105.drew | apply IsS105.set_1 | apply IsS105.set_2 | refine IsS105.far ?_ NB0_235.out _ | refine IsS105.far ?_ NB0_255.out _) | exact HI0.out)) (g1 HO_256001.out) (by decide)) hk (fun _ h => h.2)) (fun _ h => h.1)) (Kd.S_mono (Kd.S_keep (IsS105.apartS (show IsS105 w0 _ g s0_0 x1001_2 x1002_2 from by repeat (first | (with_reducible first | exact HI0.out | apply IsS105.alloc | apply IsS105.drewN | apply IsS105.drew | apply IsS105.set_1 | apply IsS105.set_2 | refine IsS105.far ?_ NB0_235.out _ | refine IsS105.far ?_ NB0_255.out _) | exact HI0.out)) (g25 HO_256003.out) (by decide)) hk (fun _ h => h.2)) (fun _ h => h.1)) (KeepBut.blk hk (g' := gb235) (o := .cells #[.slice none 0 0, .slice none 0 0, .int .i64 0, .slice none 0 0] 46 (0, 0)) (g2 BK235.out) NB235_0.out (by simp)) (KeepBut.blk hk (g' := gb255) (o := .cells #[.slice Ao19 y249.length co19, u256001, .int .i64 (wrap64 (50 * (wrap64 (t252 - 10)))), u256003] 46 (0, 0)) (g2 BK255.out) NB255_0.out (by simp)) (KeepBut.trans (g44 HK.out GW235.out GW255.out) hk (.inl rfl)) hb hi
     clear HO_256000 HO_256001 HO_256003 BK235 BK255 HK HB HI0
     obtain ⟨HO_256000, HO_256001, HO_256003, BK235, BK255, HK, HB, HI0⟩ := n_
     (try clear hb)
     (try clear hb2)
     (try clear hk)
     (try clear hi)
     refine hK.out _ _ ⟨(blk_cell BK255.out 0).trans rfl, (blk_cell BK255.out 1).trans rfl, (blk_cell BK255.out 2).trans rfl, (blk_cell BK255.out 3).trans rfl⟩ (fun hHeld => ?_)
     clear hK K
     refine norm_ (a' := ?_) ?_ ?_
     rotate_left
     ·show Act.put _ (some 49) _ = _
      simp only [Act.put, List.setIfInBounds_toArray, List.set_cons_zero, List.set_cons_succ, i64_w, i32_w]
      rfl
     refine pure_ (i := 4) (N := some 50) (v := ?_) (a' := ?_) spec_l24Right.b4_ rfl rfl (any_of HT_.out (by kernel_rfl)) (fun _ _ _ h => h) (Or.inl ⟨by rfl, ?_⟩) ?_ ?_
     rotate_left
     ·intro w'
      go_simp
      with_reducible rfl
     rotate_left
     ·exact ga0
     refine one_ (i := 5) (N := some 51) spec_l24Right.b5_ rfl rfl (one_of HT_.out (by kernel_rfl)) (by decide) (fun K hK => ?_)
     refine value_ (w1 := ?_) (v := ?_) (by rfl) rfl ?_ ?_
     rotate_left 2
     ·go_simp
      constructor
      ·rfl
      ·rfl
     refine hK.out _ _ ⟨(blk_cell (blk_alloc BK255.out _) 0).trans rfl, (blk_cell (blk_alloc BK255.out _) 1).trans rfl, (blk_cell (blk_alloc BK255.out _) 2).trans rfl, (blk_cell (blk_alloc BK255.out _) 3).trans rfl⟩ (fun hHeld => ?_)
     clear hK K
     refine norm_ (a' := ?_) ?_ ?_
     rotate_left
     ·show Act.put _ (some 51) _ = _
      simp only [Act.put, List.setIfInBounds_toArray, List.set_cons_zero, List.set_cons_succ, i64_w, i32_w]
      rfl
     refine one_ (i := 6) (N := some 52) spec_l24Right.b6_ rfl rfl (one_of HT_.out (by kernel_rfl)) (by decide) (fun K hK => ?_)
     refine Kd.R_append_step (Kd.int .i64) w.heap.size (by rfl) (.tmp 47) (.tmp 51) 26 3 (.int .i64 0) 8 rfl Try.underlying26 info3 rfl (by decide) (by omega) u256001 x256001_2 (wrap64 (t267 - 1)) [.int .i64 (wrap64 (t267 - 1))] (fun _ => True) (fun _ => False) rfl rfl ?aP (fun _ hk => hk.elim) ?aF ?aO (Below.refl _ _) ?aS ?aL ?_
     (case aP => exact rfl)
     (case aF => exact (fun _ _ => trivial))
     (case aO => exact g14 HO_256001.out)
     (case aS => exact (keep_size (w := w) (g := g) (row := none) (g44 HK.out GW235.out GW255.out)))
     (case aL => have := LMc37.out; omega)
     intro v271 w40 ho hb hg hat
     rw [← Ny270.out] at ho
     have n_ := spec_l24Right.K8_ (Kd.R_over' (g1 HO_256000.out) (Kd.R_typed (g1 HO_256001.out)) (by decide) hg) (Kd.S_over' (g25 HO_256003.out) (Kd.R_typed (g1 HO_256001.out)) (by decide) hg) (blk_grown (g := gb235) (o := .cells #[.slice none 0 0, .slice none 0 0, .int .i64 0, .slice none 0 0] 46 (0, 0)) (g2 BK235.out) hg (Kd.R_ne HO_256001.out BK235.out (by decide))) (blk_grown (g := gb255) (o := .cells #[.slice Ao19 y249.length co19, u256001, .int .i64 (wrap64 (50 * (wrap64 (t252 - 10)))), u256003] 46 (0, 0)) (g2 BK255.out) hg (Kd.R_ne HO_256001.out BK255.out (by decide))) (IsS105.grown (g42 HI0.out NB0_235.out NB0_255.out) hg (IsS105.own_ne HI0.out HO_256001.out (by decide))) (below_weaken (g43 HB.out HI0.out GE235.out GE255.out) HL.out hb) (KeepBut.trans (g44 HK.out GW235.out GW255.out) (KeepBut.of_grown hg g) (Kd.R_base2 HO_256001.out)) ho
     clear HO_256000 HO_256003 BK235 BK255 HI0 HB HK HO_256001
     obtain ⟨HO_256000, HO_256003, BK235, BK255, HI0, HB, HK, HO272⟩ := n_
     clear ho hb hg hat
     obtain ⟨Ao41, co41, eo41⟩ := Kd.R_slice HO272.out
     (first | subst eo41 | (injection eo41 with f1_ f2_ f3_; have f4_ := f1_.symm; have f5_ := f3_.symm; clear f1_ f2_ f3_; subst f4_; subst f5_))
     refine hK.out _ _ ⟨(blk_cell BK255.out 0).trans rfl, (blk_cell BK255.out 1).trans rfl, (blk_cell BK255.out 2).trans rfl, (blk_cell BK255.out 3).trans rfl⟩ (fun hHeld => ?_)
     clear hK K
     refine norm_ (a' := ?_) ?_ ?_
     rotate_left
     ·show Act.put _ (some 52) _ = _
      simp only [Act.put, List.setIfInBounds_toArray, List.set_cons_zero, List.set_cons_succ, i64_w, i32_w]
      rfl
     refine pure_ (i := 7) (N := some 53) (v := ?_) (a' := ?_) spec_l24Right.b7_ rfl rfl (any_of HT_.out (by kernel_rfl)) (fun _ _ _ h => h) (Or.inl ⟨by rfl, ?_⟩) ?_ ?_
     rotate_left
     ·intro w'
      go_simp
      with_reducible rfl
     rotate_left
     ·exact ga0
     refine last_ (i := 8) (N := none) spec_l24Right.b8_ rfl rfl (one_of HT_.out (by kernel_rfl)) (by decide) (fun K hK => ?_)
     have hs42 : w40.cell? ⟨gb255, 1, none⟩ = some (u256001) := (blk_cell BK255.out 1).trans rfl
     have hfs42 := blk_frozen BK255.out 1
     have hns42_0 := NB235_255.out
     have hms42_0 := NB255_235.out
     refine skip_ (w1 := ?_) (by rfl) rfl ?_ ?_
     rotate_left
     ·go_simp
      rfl
     refine hK.out _ _ ?_
     clear hK K
     refine done_ (done_of HT_.out (by kernel_rfl)) ?_
     try go_wp2
     go_roundg k2
     case measure => have := HK1.out; have := HK2.out; omega
     case rel => exact ⟨(wrap64 (x7_2 + 1)), (t268), (t269), (y270), (.slice Ao41 y270.length co41), (g0), H', ⟨by have := HK1.out; have := HK2.out; omega⟩, ⟨by (with_reducible repeat (first | apply Kd.R_alloc | apply Kd.R_drewN | apply Kd.R_drew)); exact Kd.R_mono (Kd.R_far (p := ⟨gb255, 1, none⟩) (Kd.R_types HO_256000.out BK255.out (by decide)) (fun _ hk => hk.2) (.slice Ao41 y270.length co41)) (fun _ hk => trivial)⟩, ⟨by (with_reducible repeat (first | apply Kd.R_alloc | apply Kd.R_drewN | apply Kd.R_drew)); exact Kd.R_mono (Kd.R_far (p := ⟨gb255, 1, none⟩) (Kd.R_types HO272.out BK255.out (by decide)) (fun _ hk => hk.2) (.slice Ao41 y270.length co41)) (fun _ hk => trivial)⟩, ⟨by (with_reducible repeat (first | apply Kd.S_alloc | apply Kd.S_drewN | apply Kd.S_drew)); exact Kd.S_mono (Kd.S_far (p := ⟨gb255, 1, none⟩) (Kd.S_types HO_256003.out BK255.out (by decide)) (fun _ hk => hk.2) (.slice Ao41 y270.length co41)) (fun _ hk => trivial)⟩, ⟨g22 NB235_255.out BK235.out⟩, ⟨by (with_reducible repeat (first | refine blk_drewN ?_ _ | refine blk_drew ?_ | refine blk_alloc ?_ _)); refine blk_put (cs := #[.slice Ao19 y249.length co19, u256001, .int .i64 (wrap64 (50 * (wrap64 (t252 - 10)))), u256003]) ?_ 1 _ rfl; (with_reducible repeat (first | refine blk_drewN ?_ _ | refine blk_drew ?_ | refine blk_alloc ?_ _)); exact BK255.out⟩, ⟨g42 HI0.out NB0_235.out NB0_255.out⟩, ⟨g44 HK.out GW235.out GW255.out⟩, ⟨g43 HB.out HI0.out GE235.out GE255.out⟩⟩
def spec_l1Pick.f (s0_0 : List Int) (s0_1 : Int) (s0_2 : Int) (l1 : List ByteArray) : Option (ByteArray × Int × Int) := (spec_l1Below.f s0_0 s0_1 s0_2 (l1.length : Int)).bind fun bt273 => (if 0 ≤ bt273.1 then (if bt273.1 < (l1.length : Int) then (some (rdOf ByteArray.empty l1 bt273.1, bt273.2.1, bt273.2.2)) else (none)) else (none))
set_option maxHeartbeats 8000000 in
set_option maxRecDepth 100000 in
theorem spec_l1Pick.calls (g : Nat) (s0_0 : List Int) (s0_1 : Int) (s0_2 : Int) (A1 : Option Addr) (c1 : Nat) (l1 : List ByteArray) (r1 : ByteArray) (r2 : Int) (r3 : Int) (w0 w : World) (hI : IsS105 w0 w g s0_0 s0_1 s0_2) (hB : Below w0.heap.size w0 w) (hr1 : Kd.C Kd.string w A1 l1.length l1) (hc1 : l1.length ≤ c1) (hf1 : ∀ ad, A1 = some ad → 0 < l1.length → ad.block ≠ g) (h : spec_l1Pick.f s0_0 s0_1 s0_2 l1 = some (r1, r2, r3)) :
    Calls Try.prog 103 #[.pointer (some ⟨g, 0, none⟩), .slice A1 l1.length c1] w fun e w' => e = .returned (.string r1) ∧ IsS105 w0 w' g s0_0 r2 r3 ∧ Below w0.heap.size w0 w' ∧ KeepBut w w' g none := by
 have HR1 := Aside0.mk hr1
 have HC1 := Aside0.mk hc1
 clear hr1 hc1
 have HI0 := Aside0.mk hI
 have HK := Aside0.mk (KeepBut.refl w g none)
 have HL := Aside0.mk hB.size
 clear hI
 have HW0 := Aside0.mk hB.size
 have HB := Aside0.mk hB
 clear hB
 have H : ((spec_l1Below.f s0_0 s0_1 s0_2 (l1.length : Int)).bind fun bt273 => (if 0 ≤ bt273.1 then (if bt273.1 < (l1.length : Int) then (some (rdOf ByteArray.empty l1 bt273.1, bt273.2.1, bt273.2.2)) else (none)) else (none))) = some (r1, r2, r3) := h
 clear h
 replace H := Option.bind_eq_some_iff.mp H
 obtain ⟨⟨t273, t274, t275⟩, A30, H⟩ := H
 replace H : (if 0 ≤ t273 then (if t273 < (l1.length : Int) then (some (rdOf ByteArray.empty l1 t273, t274, t275)) else (none)) else (none)) = some (r1, r2, r3) := H
 have A3 := Aside0.mk A30
 clear A30
 by_cases c4 : 0 ≤ t273
 case neg =>
  rw [if_neg c4] at H
  exact absurd H (by simp)
 rw [if_pos c4] at H
 have c4b0 : decide (0 ≤ t273) = true := decide_eq_true c4
 clear c4
 by_cases c5 : t273 < (l1.length : Int)
 case neg =>
  rw [if_neg c5] at H
  exact absurd H (by simp)
 rw [if_pos c5] at H
 have c5b0 : decide (t273 < (l1.length : Int)) = true := decide_eq_true c5
 clear c5
 simp only [Option.some.injEq, Prod.mk.injEq] at H
 obtain ⟨rfl, rfl, rfl⟩ := H
 go_enter Try.func103, Try.ntmps103
 go_wp2_with (first | ((with_reducible refine gate_callee (f := 101) rfl ?_); refine goesL_ (some 9) rfl rfl Try.func101 (by kernel_rfl) rfl #[.pointer (some ⟨g, 0, none⟩), .int .i64 (l1.length : Int)] rfl (g9) ?_; (with_reducible refine (spec_l1Below.calls g s0_0 s0_1 s0_2 (l1.length : Int) t273 t274 t275 w0 _ ?side1 ?side2 A3.out).mono ?_); (case side1 => exact g29 HI0.out); (case side2 => exact g30 HB.out HI0.out); rintro e w6 ⟨rfl, hi, hb, hk⟩; refine ⟨_, rfl, ?_⟩; have n_ := spec_l24Right.K3_ (KeepBut.trans (g31 HK.out) hk (.inl rfl)) hb hi; clear HK HB HI0; obtain ⟨HK, HB, HI0⟩ := n_; (try clear hb); (try clear hb2); (try clear hk); (try clear hi); have p276 : 0 ≤ (t273 : Int) := of_decide_eq_true (g6); have q276 : t273 < (l1.length : Int) := of_decide_eq_true (g6); obtain ⟨ad276, e276, hx276_0⟩ := Kd.at_string HR1.out t273 p276 q276; cases e276; replace hx276_0 := keep_cell HK.out hx276_0 (by first | (rw [add_block]; exact hf1 _ rfl (by omega)) | exact hf1 _ rfl (by omega) | exact hf1 ad276 rfl (by omega)); replace p276 := eq_true p276; replace q276 := eq_true q276))
 go_ret
 exact ⟨g5, g29 HI0.out, g30 HB.out HI0.out, g31 HK.out⟩
def spec_l1PickInt.f (s0_0 : List Int) (s0_1 : Int) (s0_2 : Int) (l1 : List Int) : Option (Int × Int × Int) := (spec_l1Below.f s0_0 s0_1 s0_2 (l1.length : Int)).bind fun bt277 => (if 0 ≤ bt277.1 then (if bt277.1 < (l1.length : Int) then (some (rd l1 bt277.1, bt277.2.1, bt277.2.2)) else (none)) else (none))
set_option maxHeartbeats 8000000 in
set_option maxRecDepth 100000 in
theorem spec_l1PickInt.calls (g : Nat) (s0_0 : List Int) (s0_1 : Int) (s0_2 : Int) (A1 : Option Addr) (c1 : Nat) (l1 : List Int) (r1 : Int) (r2 : Int) (r3 : Int) (w0 w : World) (hI : IsS105 w0 w g s0_0 s0_1 s0_2) (hB : Below w0.heap.size w0 w) (hr1 : Kd.C (Kd.int .i64) w A1 l1.length l1) (hc1 : l1.length ≤ c1) (hf1 : ∀ ad, A1 = some ad → 0 < l1.length → ad.block ≠ g) (h : spec_l1PickInt.f s0_0 s0_1 s0_2 l1 = some (r1, r2, r3)) :
    Calls Try.prog 47 #[.pointer (some ⟨g, 0, none⟩), .slice A1 l1.length c1] w fun e w' => e = .returned (.int .i64 r1) ∧ IsS105 w0 w' g s0_0 r2 r3 ∧ Below w0.heap.size w0 w' ∧ KeepBut w w' g none := by
 have HR1 := Aside0.mk hr1
 have HC1 := Aside0.mk hc1
 clear hr1 hc1
 have HI0 := Aside0.mk hI
 have HK := Aside0.mk (KeepBut.refl w g none)
 have HL := Aside0.mk hB.size
 clear hI
 have HW0 := Aside0.mk hB.size
 have HB := Aside0.mk hB
 clear hB
 have H : ((spec_l1Below.f s0_0 s0_1 s0_2 (l1.length : Int)).bind fun bt277 => (if 0 ≤ bt277.1 then (if bt277.1 < (l1.length : Int) then (some (rd l1 bt277.1, bt277.2.1, bt277.2.2)) else (none)) else (none))) = some (r1, r2, r3) := h
 clear h
 replace H := Option.bind_eq_some_iff.mp H
 obtain ⟨⟨t277, t278, t279⟩, A30, H⟩ := H
 replace H : (if 0 ≤ t277 then (if t277 < (l1.length : Int) then (some (rd l1 t277, t278, t279)) else (none)) else (none)) = some (r1, r2, r3) := H
 have A3 := Aside0.mk A30
 clear A30
 by_cases c4 : 0 ≤ t277
 case neg =>
  rw [if_neg c4] at H
  exact absurd H (by simp)
 rw [if_pos c4] at H
 have c4b0 : decide (0 ≤ t277) = true := decide_eq_true c4
 clear c4
 by_cases c5 : t277 < (l1.length : Int)
 case neg =>
  rw [if_neg c5] at H
  exact absurd H (by simp)
 rw [if_pos c5] at H
 have c5b0 : decide (t277 < (l1.length : Int)) = true := decide_eq_true c5
 clear c5
 simp only [Option.some.injEq, Prod.mk.injEq] at H
 obtain ⟨rfl, rfl, rfl⟩ := H
 go_enter Try.func47, Try.ntmps47
 go_wp2_with (first | ((with_reducible refine gate_callee (f := 101) rfl ?_); refine goesL_ (some 9) rfl rfl Try.func101 (by kernel_rfl) rfl #[.pointer (some ⟨g, 0, none⟩), .int .i64 (l1.length : Int)] rfl (g9) ?_; (with_reducible refine (spec_l1Below.calls g s0_0 s0_1 s0_2 (l1.length : Int) t277 t278 t279 w0 _ ?side1 ?side2 A3.out).mono ?_); (case side1 => exact g29 HI0.out); (case side2 => exact g30 HB.out HI0.out); rintro e w6 ⟨rfl, hi, hb, hk⟩; refine ⟨_, rfl, ?_⟩; have n_ := spec_l24Right.K3_ (KeepBut.trans (g31 HK.out) hk (.inl rfl)) hb hi; clear HK HB HI0; obtain ⟨HK, HB, HI0⟩ := n_; (try clear hb); (try clear hb2); (try clear hk); (try clear hi); have p280 : 0 ≤ (t277 : Int) := of_decide_eq_true (g6); have q280 : t277 < (l1.length : Int) := of_decide_eq_true (g6); obtain ⟨ad280, e280, hx280_0⟩ := Kd.at_int HR1.out t277 p280 q280; cases e280; replace hx280_0 := keep_cell HK.out hx280_0 (by first | (rw [add_block]; exact hf1 _ rfl (by omega)) | exact hf1 _ rfl (by omega) | exact hf1 ad280 rfl (by omega)); replace p280 := eq_true p280; replace q280 := eq_true q280))
 go_ret
 exact ⟨g5, g29 HI0.out, g30 HB.out HI0.out, g31 HK.out⟩
end Go.Proofs.Yteoikmbdpofhmaa.XFnUses
