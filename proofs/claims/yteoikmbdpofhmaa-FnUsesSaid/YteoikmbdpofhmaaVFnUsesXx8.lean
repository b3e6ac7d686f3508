import Derived.Test.YteoikmbdpofhmaaVFnUsesXx0
import Derived.Test.YteoikmbdpofhmaaVFnUsesXx2
import Derived.Test.YteoikmbdpofhmaaVFnUsesXx6
import Derived.Test.YteoikmbdpofhmaaVFnUsesXx7
namespace Go.Proofs.Yteoikmbdpofhmaa.XFnUses
open Go.RowKit Go.Proofs.YteoikmbdpofhmaaW.PrintWords Go.Proofs.YteoikmbdpofhmaaW.PrintLast Go.Proofs.YteoikmbdpofhmaaW.PrintMore
attribute [local go_sem] max2_int min2_int max_two min_two max_three min_three max_four min_four
set_option linter.unusedVariables false
set_option linter.unusedSimpArgs false
theorem spec_l24Bent.z0 {p : Prop} (h : p := by (with_reducible repeat (first | refine blk_drewN ?_ _ | refine blk_drew ?_ | refine blk_alloc ?_ _)); refine blk_put (cs := #[.slice Ao8 t339.length co8, .slice Ao12 t342.length co12, .int .i64 t345, .slice none 0 0]) ?_ 3 _ rfl; (with_reducible repeat (first | refine blk_drewN ?_ _ | refine blk_drew ?_ | refine blk_alloc ?_ _)); refine blk_put (cs := #[.slice Ao8 t339.length co8, .slice Ao12 t342.length co12, .int .i64 0, .slice none 0 0]) ?_ 2 _ rfl; (with_reducible repeat (first | refine blk_drewN ?_ _ | refine blk_drew ?_ | refine blk_alloc ?_ _)); refine blk_put (cs := #[.slice Ao8 t339.length co8, .slice none 0 0, .int .i64 0, .slice none 0 0]) ?_ 1 _ rfl; (with_reducible repeat (first | refine blk_drewN ?_ _ | refine blk_drew ?_ | refine blk_alloc ?_ _)); refine blk_put (cs := #[.slice none 0 0, .slice none 0 0, .int .i64 0, .slice none 0 0]) ?_ 0 _ rfl; (with_reducible repeat (first | refine blk_drewN ?_ _ | refine blk_drew ?_ | refine blk_alloc ?_ _)); exact BK338.out) : p := h
theorem spec_l24Bent.K7_ {p0 p1 p2 p3 p4 p5 p6 : Prop} (h0 : p0) (h1 : p1) (h2 : p2) (h3 : p3) (h4 : p4) (h5 : p5) (h6 : p6) : Aside0 p0 ∧ Aside0 p1 ∧ Aside0 p2 ∧ Aside0 p3 ∧ Aside0 p4 ∧ Aside0 p5 ∧ Aside0 p6 := ⟨⟨h0⟩, ⟨h1⟩, ⟨h2⟩, ⟨h3⟩, ⟨h4⟩, ⟨h5⟩, ⟨h6⟩⟩
theorem spec_l24Bent.K8_ {p0 p1 p2 p3 p4 p5 p6 p7 : Prop} (h0 : p0) (h1 : p1) (h2 : p2) (h3 : p3) (h4 : p4) (h5 : p5) (h6 : p6) (h7 : p7) : Aside0 p0 ∧ Aside0 p1 ∧ Aside0 p2 ∧ Aside0 p3 ∧ Aside0 p4 ∧ Aside0 p5 ∧ Aside0 p6 ∧ Aside0 p7 := ⟨⟨h0⟩, ⟨h1⟩, ⟨h2⟩, ⟨h3⟩, ⟨h4⟩, ⟨h5⟩, ⟨h6⟩, ⟨h7⟩⟩
theorem spec_l24Bent.K9_ {p0 p1 p2 p3 p4 p5 p6 p7 p8 : Prop} (h0 : p0) (h1 : p1) (h2 : p2) (h3 : p3) (h4 : p4) (h5 : p5) (h6 : p6) (h7 : p7) (h8 : p8) : Aside0 p0 ∧ Aside0 p1 ∧ Aside0 p2 ∧ Aside0 p3 ∧ Aside0 p4 ∧ Aside0 p5 ∧ Aside0 p6 ∧ Aside0 p7 ∧ Aside0 p8 := ⟨⟨h0⟩, ⟨h1⟩, ⟨h2⟩, ⟨h3⟩, ⟨h4⟩, ⟨h5⟩, ⟨h6⟩, ⟨h7⟩, ⟨h8⟩⟩
theorem spec_l24Bent.K14_ {p0 p1 p2 p3 p4 p5 p6 p7 p8 p9 p10 p11 p12 p13 : Prop} (h0 : p0) (h1 : p1) (h2 : p2) (h3 : p3) (h4 : p4) (h5 : p5) (h6 : p6) (h7 : p7) (h8 : p8) (h9 : p9) (h10 : p10) (h11 : p11) (h12 : p12) (h13 : p13) : Aside0 p0 ∧ Aside0 p1 ∧ Aside0 p2 ∧ Aside0 p3 ∧ Aside0 p4 ∧ Aside0 p5 ∧ Aside0 p6 ∧ Aside0 p7 ∧ Aside0 p8 ∧ Aside0 p9 ∧ Aside0 p10 ∧ Aside0 p11 ∧ Aside0 p12 ∧ Aside0 p13 := ⟨⟨h0⟩, ⟨h1⟩, ⟨h2⟩, ⟨h3⟩, ⟨h4⟩, ⟨h5⟩, ⟨h6⟩, ⟨h7⟩, ⟨h8⟩, ⟨h9⟩, ⟨h10⟩, ⟨h11⟩, ⟨h12⟩, ⟨h13⟩⟩
def spec_l24Bent.l0 : Nat → List Int → Int → Int → List ByteArray → List Int → Int → List (S68) → Option (List ByteArray × List Int × Int × (List (S68)) × Int × Int)
  | 0, _, _, _, _, _, _, _ => none
  | k + 1, x1000, x1001, x1002, x352000, x352001, x352002, x352003 => (spec_l1Below.f x1000 x1001 x1002 2).bind fun bt379 => (if (x352003.length : Int) < (wrap64 (8 + bt379.1)) then ((spec_OneLeaf.f 1).bind fun t382 => (if x352003.length < 5864062014805 then (spec_l24Bent.l0 k x1000 bt379.2.1 bt379.2.2 x352000 x352001 x352002 (x352003 ++ [(⟨t382⟩ : S68)])) else (none))) else (some (x352000, x352001, x352002, x352003, bt379.2.1, bt379.2.2)))
def spec_l24Bent.f (k : Nat) (s0_0 : List Int) (s0_1 : Int) (s0_2 : Int) : Option (List ByteArray × List Int × Int × (List (S68)) × Int × Int) := (spec_l24Right.f k s0_0 s0_1 s0_2).bind fun bt339 => ((spec_l1Below.f s0_0 bt339.2.2.2.2.1 bt339.2.2.2.2.2 14).bind fun bt352 => (if bt352.1 = 0 then ((spec_l1Pick.f s0_0 bt352.2.1 bt352.2.2 (([(⟨#[]⟩ : ByteArray), (⟨#[65]⟩ : ByteArray), (⟨#[98]⟩ : ByteArray), (⟨#[97, 98, 99, 100, 101, 102, 103, 104, 105, 106, 107, 108, 109]⟩ : ByteArray)] : List ByteArray))).bind fun bt358 => (if 0 < (bt339.1.length : Int) then (some ((bt339.1.set (0 : Int).toNat bt358.1), bt339.2.1, bt339.2.2.1, bt339.2.2.2.1, bt358.2.1, bt358.2.2)) else (none))) else (if bt352.1 = 1 then (if bt339.2.1.length < 17592186044416 then (some (bt339.1, (bt339.2.1 ++ [0]), bt339.2.2.1, bt339.2.2.2.1, bt352.2.1, bt352.2.2)) else (none)) else (if bt352.1 = 2 then ((spec_l1PickInt.f s0_0 bt352.2.1 bt352.2.2 (([2147483647, 2147483648, (-2147483648)] : List Int))).bind fun bt368 => (some (bt339.1, bt339.2.1, bt368.1, bt339.2.2.2.1, bt368.2.1, bt368.2.2))) else (if bt352.1 = 3 then ((spec_l17Bent.f k s0_0 bt352.2.1 bt352.2.2).bind fun bt371 => (if bt339.2.2.2.1.length < 5864062014805 then (some (bt339.1, bt339.2.1, bt339.2.2.1, (bt339.2.2.2.1 ++ [(⟨bt371.1⟩ : S68)]), bt371.2.1, bt371.2.2)) else (none))) else (if bt352.1 = 4 then (spec_l24Bent.l0 k s0_0 bt352.2.1 bt352.2.2 bt339.1 bt339.2.1 bt339.2.2.1 bt339.2.2.2.1) else (if bt352.1 = 5 then ((some (([(⟨#[100]⟩ : ByteArray), (⟨#[101]⟩ : ByteArray)] : List ByteArray) : List ByteArray)).bind fun y388 => (if bt339.1.length + y388.length < 8796093022208 then (some ((bt339.1 ++ y388), bt339.2.1, bt339.2.2.1, bt339.2.2.2.1, bt352.2.1, bt352.2.2)) else (none))) else (some (bt339.1, bt339.2.1, bt339.2.2.1, bt339.2.2.2.1, bt352.2.1, bt352.2.2)))))))))
def spec_l24Bent.T10 : Bool × List (List Nat × List Nat) := (true, [([], []), ([0], [0]), ([], []), ([2], [2]), ([3], [3]), ([1, 4, 3], [1, 4]), ([0, 1, 2, 3, 4, 5], []), ([6, 5, 5, 0, 1, 2, 3, 4, 5], [5, 6])])
def spec_l24Bent.B10 : List Nat := [0, 1, 0, 4, 12, 31, 63, 127]
theorem spec_l24Bent.tab10 : rtab .any (opsOf Try.f83 10) = spec_l24Bent.T10 := by kernel_rfl
theorem spec_l24Bent.bits10 : waitsOk spec_l24Bent.T10.2 spec_l24Bent.B10 = true := by kernel_rfl
set_option maxHeartbeats 8000000 in
set_option maxRecDepth 100000 in
theorem spec_l24Bent.calls (k : Nat) (g : Nat) (s0_0 : List Int) (s0_1 : Int) (s0_2 : Int) (r1 : List ByteArray) (r2 : List Int) (r3 : Int) (r4 : List (S68)) (r5 : Int) (r6 : Int) (w0 w : World) (hI : IsS105 w0 w g s0_0 s0_1 s0_2) (hB : Below w0.heap.size w0 w) (h : spec_l24Bent.f k s0_0 s0_1 s0_2 = some (r1, r2, r3, r4, r5, r6)) :
    Calls Try.prog 83 #[.pointer (some ⟨g, 0, none⟩)] w fun e w' => ∃ v0_ v1_ v3_ : Value, e = .returned (.agg #[v0_, v1_, .int .i64 r3, v3_]) ∧ Kd.R Kd.string 9 w' w.heap.size (fun _ => True) v0_ r1 ∧ Kd.R (Kd.int .i64) 3 w' w.heap.size (fun _ => True) v1_ r2 ∧ Kd.S k68 68 w' w.heap.size (fun _ => True) v3_ r4 ∧ IsS105 w0 w' g s0_0 r5 r6 ∧ Below w0.heap.size w0 w' ∧ KeepBut w w' g none := by
 have hu46 := Try.underlying46
 have HI0 := Aside0.mk hI
 have HK := Aside0.mk (KeepBut.refl w g none)
 have HL := Aside0.mk hB.size
 clear hI
 have HW0 := Aside0.mk hB.size
 have HB := Aside0.mk hB
 clear hB
 have H : ((spec_l24Right.f k s0_0 s0_1 s0_2).bind fun bt339 => ((spec_l1Below.f s0_0 bt339.2.2.2.2.1 bt339.2.2.2.2.2 14).bind fun bt352 => (if bt352.1 = 0 then ((spec_l1Pick.f s0_0 bt352.2.1 bt352.2.2 (([(⟨#[]⟩ : ByteArray), (⟨#[65]⟩ : ByteArray), (⟨#[98]⟩ : ByteArray), (⟨#[97, 98, 99, 100, 101, 102, 103, 104, 105, 106, 107, 108, 109]⟩ : ByteArray)] : List ByteArray))).bind fun bt358 => (if 0 < (bt339.1.length : Int) then (some ((bt339.1.set (0 : Int).toNat bt358.1), bt339.2.1, bt339.2.2.1, bt339.2.2.2.1, bt358.2.1, bt358.2.2)) else (none))) else (if bt352.1 = 1 then (if bt339.2.1.length < 17592186044416 then (some (bt339.1, (bt339.2.1 ++ [0]), bt339.2.2.1, bt339.2.2.2.1, bt352.2.1, bt352.2.2)) else (none)) else (if bt352.1 = 2 then ((spec_l1PickInt.f s0_0 bt352.2.1 bt352.2.2 (([2147483647, 2147483648, (-2147483648)] : List Int))).bind fun bt368 => (some (bt339.1, bt339.2.1, bt368.1, bt339.2.2.2.1, bt368.2.1, bt368.2.2))) else (if bt352.1 = 3 then ((spec_l17Bent.f k s0_0 bt352.2.1 bt352.2.2).bind fun bt371 => (if bt339.2.2.2.1.length < 5864062014805 then (some (bt339.1, bt339.2.1, bt339.2.2.1, (bt339.2.2.2.1 ++ [(⟨bt371.1⟩ : S68)]), bt371.2.1, bt371.2.2)) else (none))) else (if bt352.1 = 4 then (spec_l24Bent.l0 k s0_0 bt352.2.1 bt352.2.2 bt339.1 bt339.2.1 bt339.2.2.1 bt339.2.2.2.1) else (if bt352.1 = 5 then ((some (([(⟨#[100]⟩ : ByteArray), (⟨#[101]⟩ : ByteArray)] : List ByteArray) : List ByteArray)).bind fun y388 => (if bt339.1.length + y388.length < 8796093022208 then (some ((bt339.1 ++ y388), bt339.2.1, bt339.2.2.1, bt339.2.2.2.1, bt352.2.1, bt352.2.2)) else (none))) else (some (bt339.1, bt339.2.1, bt339.2.2.1, bt339.2.2.2.1, bt352.2.1, bt352.2.2)))))))))) = some (r1, r2, r3, r4, r5, r6) := h
 clear h
 replace H := Option.bind_eq_some_iff.mp H
 obtain ⟨⟨t339, t342, t345, t346, t349, t350⟩, A20, H⟩ := H
 replace H : ((spec_l1Below.f s0_0 t349 t350 14).bind fun bt352 => (if bt352.1 = 0 then ((spec_l1Pick.f s0_0 bt352.2.1 bt352.2.2 (([(⟨#[]⟩ : ByteArray), (⟨#[65]⟩ : ByteArray), (⟨#[98]⟩ : ByteArray), (⟨#[97, 98, 99, 100, 101, 102, 103, 104, 105, 106, 107, 108, 109]⟩ : ByteArray)] : List ByteArray))).bind fun bt358 => (if 0 < (t339.length : Int) then (some ((t339.set (0 : Int).toNat bt358.1), t342, t345, t346, bt358.2.1, bt358.2.2)) else (none))) else (if bt352.1 = 1 then (if t342.length < 17592186044416 then (some (t339, (t342 ++ [0]), t345, t346, bt352.2.1, bt352.2.2)) else (none)) else (if bt352.1 = 2 then ((spec_l1PickInt.f s0_0 bt352.2.1 bt352.2.2 (([2147483647, 2147483648, (-2147483648)] : List Int))).bind fun bt368 => (some (t339, t342, bt368.1, t346, bt368.2.1, bt368.2.2))) else (if bt352.1 = 3 then ((spec_l17Bent.f k s0_0 bt352.2.1 bt352.2.2).bind fun bt371 => (if t346.length < 5864062014805 then (some (t339, t342, t345, (t346 ++ [(⟨bt371.1⟩ : S68)]), bt371.2.1, bt371.2.2)) else (none))) else (if bt352.1 = 4 then (spec_l24Bent.l0 k s0_0 bt352.2.1 bt352.2.2 t339 t342 t345 t346) else (if bt352.1 = 5 then ((some (([(⟨#[100]⟩ : ByteArray), (⟨#[101]⟩ : ByteArray)] : List ByteArray) : List ByteArray)).bind fun y388 => (if t339.length + y388.length < 8796093022208 then (some ((t339 ++ y388), t342, t345, t346, bt352.2.1, bt352.2.2)) else (none))) else (some (t339, t342, t345, t346, bt352.2.1, bt352.2.2))))))))) = some (r1, r2, r3, r4, r5, r6) := H
 have A2 := Aside0.mk A20
 clear A20
 replace H := Option.bind_eq_some_iff.mp H
 obtain ⟨⟨t352, t353, t354⟩, A30, H⟩ := H
 replace H : (if t352 = 0 then ((spec_l1Pick.f s0_0 t353 t354 (([(⟨#[]⟩ : ByteArray), (⟨#[65]⟩ : ByteArray), (⟨#[98]⟩ : ByteArray), (⟨#[97, 98, 99, 100, 101, 102, 103, 104, 105, 106, 107, 108, 109]⟩ : ByteArray)] : List ByteArray))).bind fun bt358 => (if 0 < (t339.length : Int) then (some ((t339.set (0 : Int).toNat bt358.1), t342, t345, t346, bt358.2.1, bt358.2.2)) else (none))) else (if t352 = 1 then (if t342.length < 17592186044416 then (some (t339, (t342 ++ [0]), t345, t346, t353, t354)) else (none)) else (if t352 = 2 then ((spec_l1PickInt.f s0_0 t353 t354 (([2147483647, 2147483648, (-2147483648)] : List Int))).bind fun bt368 => (some (t339, t342, bt368.1, t346, bt368.2.1, bt368.2.2))) else (if t352 = 3 then ((spec_l17Bent.f k s0_0 t353 t354).bind fun bt371 => (if t346.length < 5864062014805 then (some (t339, t342, t345, (t346 ++ [(⟨bt371.1⟩ : S68)]), bt371.2.1, bt371.2.2)) else (none))) else (if t352 = 4 then (spec_l24Bent.l0 k s0_0 t353 t354 t339 t342 t345 t346) else (if t352 = 5 then ((some (([(⟨#[100]⟩ : ByteArray), (⟨#[101]⟩ : ByteArray)] : List ByteArray) : List ByteArray)).bind fun y388 => (if t339.length + y388.length < 8796093022208 then (some ((t339 ++ y388), t342, t345, t346, t353, t354)) else (none))) else (some (t339, t342, t345, t346, t353, t354)))))))) = some (r1, r2, r3, r4, r5, r6) := H
 have A3 := Aside0.mk A30
 clear A30
 have HZ4 := Aside0.mk H
 clear H
 go_enter Try.func83, Try.ntmps83
 go_upto_if 8 with (first | ((with_reducible refine gate_dst (N := 2) rfl ?_); refine box_event ?hg (N := 2) ?hd (cs := #[.slice none 0 0, .slice none 0 0, .int .i64 0, .slice none 0 0]) (t := 46) ?hr ?_; (case hd => rfl); (case hg => rfl); (case hr => exact g10); intro gb338 hg w5 hbox hb; have n_ := spec_l24Bent.K8_ (IsS105.below (g29 HI0.out) hb) (KeepBut.trans (g31 HK.out) (KeepBut.of_below hb g none) (.inl rfl)) (below_step (g30 HB.out HI0.out) hb) hbox ((by rw [hg]; exact (keep_size (w := w) (g := g) (row := none) (g31 HK.out)) : w.heap.size ≤ gb338)) ((Nat.le_trans HW0.out (by rw [hg]; exact (keep_size (w := w) (g := g) (row := none) (g31 HK.out)) : w.heap.size ≤ gb338) : w0.heap.size ≤ gb338)) ((by rw [hg]; exact Nat.ne_of_lt (IsS105.lt (show IsS105 w0 _ g s0_0 s0_1 s0_2 from by repeat (first | (with_reducible first | exact HI0.out | apply IsS105.alloc | apply IsS105.drewN | apply IsS105.drew | apply IsS105.set_1 | apply IsS105.set_2) | exact HI0.out))) : g ≠ gb338)) ((by rw [hg]; exact Nat.ne_of_gt (IsS105.lt (show IsS105 w0 _ g s0_0 s0_1 s0_2 from by repeat (first | (with_reducible first | exact HI0.out | apply IsS105.alloc | apply IsS105.drewN | apply IsS105.drew | apply IsS105.set_1 | apply IsS105.set_2) | exact HI0.out))) : gb338 ≠ g)); clear HI0 HK HB; obtain ⟨HI0, HK, HB, BK338, GW338, GE338, NB0_338, NB338_0⟩ := n_; clear hb hbox hg) | ((with_reducible refine gate_callee (f := 120) rfl ?_); refine goesL_ (some 5) rfl rfl Try.func120 (by kernel_rfl) rfl #[.pointer (some ⟨g, 0, none⟩)] rfl (g9) ?_; (with_reducible refine (spec_l24Right.calls k g s0_0 s0_1 s0_2 t339 t342 t345 t346 t349 t350 w0 _ ?side1 ?side2 A2.out).mono ?_); (case side1 => exact g39 HI0.out NB0_338.out); (case side2 => exact g40 HB.out HI0.out GE338.out); rintro e w6 ⟨v340, v343, v347, rfl, ho0, ho1, ho2, hi, hb, hk⟩; refine ⟨_, rfl, ?_⟩; have n_ := spec_l24Bent.K7_ (KeepBut.blk hk (g' := gb338) (o := .cells #[.slice none 0 0, .slice none 0 0, .int .i64 0, .slice none 0 0] 46 (0, 0)) (g2 BK338.out) NB338_0.out (by simp)) (Kd.R_lower ho0 (keep_size (w := w) (g := g) (row := none) (g41 HK.out GW338.out))) (Kd.R_lower ho1 (keep_size (w := w) (g := g) (row := none) (g41 HK.out GW338.out))) (Kd.S_lower ho2 (keep_size (w := w) (g := g) (row := none) (g41 HK.out GW338.out))) (KeepBut.trans (g41 HK.out GW338.out) hk (.inl rfl)) hb hi; clear BK338 HK HB HI0; obtain ⟨BK338, HO341, HO344, HO348, HK, HB, HI0⟩ := n_; (try clear hb); (try clear hb2); (try clear hk); (try clear hi); (try clear ho0); (try clear ho1); (try clear ho2)) | ((with_reducible refine gate_dst (N := 3) rfl ?_); refine box_event ?hg (N := 3) ?hd (cs := #[.slice none 0 0, .slice none 0 0, .int .i64 0, .slice none 0 0]) (t := 46) ?hr ?_; (case hd => rfl); (case hg => rfl); (case hr => exact g10); intro gb351 hg w7 hbox hb; have n_ := spec_l24Bent.K14_ (Kd.R_below (g1 HO341.out) hb) (Kd.R_below (g1 HO344.out) hb) (Kd.S_below (g25 HO348.out) hb) (IsS105.below (g39 HI0.out NB0_338.out) hb) (blk_below (g := gb338) (o := .cells #[.slice none 0 0, .slice none 0 0, .int .i64 0, .slice none 0 0] 46 (0, 0)) (g2 BK338.out) hb) (KeepBut.trans (g41 HK.out GW338.out) (KeepBut.of_below hb g none) (.inl rfl)) (below_step (g40 HB.out HI0.out GE338.out) hb) hbox ((by rw [hg]; exact (keep_size (w := w) (g := g) (row := none) (g41 HK.out GW338.out)) : w.heap.size ≤ gb351)) ((Nat.le_trans HW0.out (by rw [hg]; exact (keep_size (w := w) (g := g) (row := none) (g41 HK.out GW338.out)) : w.heap.size ≤ gb351) : w0.heap.size ≤ gb351)) ((by rw [hg]; exact Nat.ne_of_lt (blk_lt (g := gb338) (o := .cells #[.slice none 0 0, .slice none 0 0, .int .i64 0, .slice none 0 0] 46 (0, 0)) (g2 BK338.out)) : gb338 ≠ gb351)) ((by rw [hg]; exact Nat.ne_of_gt (blk_lt (g := gb338) (o := .cells #[.slice none 0 0, .slice none 0 0, .int .i64 0, .slice none 0 0] 46 (0, 0)) (g2 BK338.out)) : gb351 ≠ gb338)) ((by rw [hg]; exact Nat.ne_of_lt (IsS105.lt (show IsS105 w0 _ g s0_0 t349 t350 from by repeat (first | (with_reducible first | exact HI0.out | apply IsS105.alloc | apply IsS105.drewN | apply IsS105.drew | apply IsS105.set_1 | apply IsS105.set_2 | refine IsS105.far ?_ NB0_338.out _) | exact HI0.out))) : g ≠ gb351)) ((by rw [hg]; exact Nat.ne_of_gt (IsS105.lt (show IsS105 w0 _ g s0_0 t349 t350 from by repeat (first | (with_reducible first | exact HI0.out | apply IsS105.alloc | apply IsS105.drewN | apply IsS105.drew | apply IsS105.set_1 | apply IsS105.set_2 | refine IsS105.far ?_ NB0_338.out _) | exact HI0.out))) : gb351 ≠ g)); clear HO341 HO344 HO348 HI0 BK338 HK HB; obtain ⟨HO341, HO344, HO348, HI0, BK338, HK, HB, BK351, GW351, GE351, NB338_351, NB351_338, NB0_351, NB351_0⟩ := n_; clear hb hbox hg; obtain ⟨Ao8, co8, eo8⟩ := Kd.R_slice HO341.out; subst eo8; have hnb9 := NB351_338.out; have hnc9 := NB338_351.out; have hnb10 := NB351_0.out; have hnc10 := NB0_351.out; have hcz11_0 : w7.cell? ⟨gb351, 0, none⟩ = some (.slice none 0 0) := (blk_cell BK351.out 0).trans rfl; have hcz11_1 : w7.cell? ⟨gb351, 1, none⟩ = some (.slice none 0 0) := (blk_cell BK351.out 1).trans rfl; have hcz11_2 : w7.cell? ⟨gb351, 2, none⟩ = some (.int .i64 0) := (blk_cell BK351.out 2).trans rfl; have hcz11_3 : w7.cell? ⟨gb351, 3, none⟩ = some (.slice none 0 0) := (blk_cell BK351.out 3).trans rfl; have hfz11_0 := blk_frozen BK351.out 0; have hfz11_1 := blk_frozen BK351.out 1; have hfz11_2 := blk_frozen BK351.out 2; have hfz11_3 := blk_frozen BK351.out 3; obtain ⟨Ao12, co12, eo12⟩ := Kd.R_slice HO344.out; subst eo12; obtain ⟨Ao13, co13, eo13⟩ := Kd.S_slice HO348.out; subst eo13) | ((with_reducible refine gate_callee (f := 101) rfl ?_); refine goesL_ (some 7) rfl rfl Try.func101 (by kernel_rfl) rfl #[.pointer (some ⟨g, 0, none⟩), .int .i64 14] rfl (g9) ?_; (with_reducible refine (spec_l1Below.calls g s0_0 t349 t350 14 t352 t353 t354 w0 _ ?side1 ?side2 A3.out).mono ?_); (case side1 => exact g42 HI0.out NB0_338.out NB0_351.out); (case side2 => exact g43 HB.out HI0.out GE338.out GE351.out); rintro e w14 ⟨rfl, hi, hb, hk⟩; refine ⟨_, rfl, ?_⟩; have n_ := spec_l24Bent.K8_ (KeepBut.blk hk (g' := gb338) (o := .cells #[.slice none 0 0, .slice none 0 0, .int .i64 0, .slice none 0 0] 46 (0, 0)) (g49 NB338_351.out BK338.out) NB338_0.out (by simp)) (Kd.R_mono (Kd.R_keep (IsS105.apart (show IsS105 w0 _ g s0_0 t349 t350 from by repeat (first | (with_reducible first | exact HI0.out | apply IsS105.alloc | apply IsS105.drewN | apply IsS105.drew | apply IsS105.set_1 | apply IsS105.set_2 | refine IsS105.far ?_ NB0_338.out _ | refine IsS105.far ?_ NB0_351.out _) | exact HI0.out)) (by (with_reducible repeat (first | apply Kd.R_alloc | apply Kd.R_drewN | apply Kd.R_drew)); exact (Kd.R_mono (Kd.R_far (p := ⟨gb351, 3, none⟩) (Kd.R_far (p := ⟨gb351, 2, none⟩) (Kd.R_far (p := ⟨gb351, 1, none⟩) (Kd.R_far (p := ⟨gb351, 0, none⟩) (Kd.R_types HO341.out BK351.out (by decide)) (fun _ hk => hk.2) (.slice Ao8 t339.length co8)) (fun _ hk => hk.2) (.slice Ao12 t342.length co12)) (fun _ hk => hk.2) (.int .i64 t345)) (fun _ hk => hk.2) (.slice Ao13 t346.length co13)) (fun _ h_ => h_.1))) (by decide)) hk (fun _ h => h.2)) (fun _ h => h.1)) (Kd.R_mono (Kd.R_keep (IsS105.apart (show IsS105 w0 _ g s0_0 t349 t350 from by repeat (first | (with_reducible first | exact HI0.out | apply IsS105.alloc | apply IsS105.drewN | apply IsS105.drew | apply IsS105.set_1 | apply IsS105.set_2 | refine IsS105.far ?_ NB0_338.out _ | refine IsS105.far ?_ NB0_351.out _) | exact HI0.out)) (by (with_reducible repeat (first | apply Kd.R_alloc | apply Kd.R_drewN | apply Kd.R_drew)); exact (Kd.R_mono (Kd.R_far (p := ⟨gb351, 3, none⟩) (Kd.R_far (p := ⟨gb351, 2, none⟩) (Kd.R_far (p := ⟨gb351, 1, none⟩) (Kd.R_far (p := ⟨gb351, 0, none⟩) (Kd.R_types HO344.out BK351.out (by decide)) (fun _ hk => hk.2) (.slice Ao8 t339.length co8)) (fun _ hk => hk.2) (.slice Ao12 t342.length co12)) (fun _ hk => hk.2) (.int .i64 t345)) (fun _ hk => hk.2) (.slice Ao13 t346.length co13)) (fun _ h_ => h_.1))) (by decide)) hk (fun _ h => h.2)) (fun _ h => h.1)) (Kd.S_mono (Kd.S_keep (IsS105.apartS (show IsS105 w0 _ g s0_0 t349 t350 from by repeat (first | (with_reducible first | exact HI0.out | apply IsS105.alloc | apply IsS105.drewN | apply IsS105.drew | apply IsS105.set_1 | apply IsS105.set_2 | refine IsS105.far ?_ NB0_338.out _ | refine IsS105.far ?_ NB0_351.out _) | exact HI0.out)) (by (with_reducible repeat (first | apply Kd.S_alloc | apply Kd.S_drewN | apply Kd.S_drew)); exact (Kd.S_mono (Kd.S_far (p := ⟨gb351, 3, none⟩) (Kd.S_far (p := ⟨gb351, 2, none⟩) (Kd.S_far (p := ⟨gb351, 1, none⟩) (Kd.S_far (p := ⟨gb351, 0, none⟩) (Kd.S_types HO348.out BK351.out (by decide)) (fun _ hk => hk.2) (.slice Ao8 t339.length co8)) (fun _ hk => hk.2) (.slice Ao12 t342.length co12)) (fun _ hk => hk.2) (.int .i64 t345)) (fun _ hk => hk.2) (.slice Ao13 t346.length co13)) (fun _ h_ => h_.1))) (by decide)) hk (fun _ h => h.2)) (fun _ h => h.1)) (KeepBut.blk hk (g' := gb351) (o := .cells #[.slice Ao8 t339.length co8, .slice Ao12 t342.length co12, .int .i64 t345, .slice Ao13 t346.length co13] 46 (0, 0)) (by (with_reducible repeat (first | refine blk_drewN ?_ _ | refine blk_drew ?_ | refine blk_alloc ?_ _)); refine blk_put (cs := #[.slice Ao8 t339.length co8, .slice Ao12 t342.length co12, .int .i64 t345, .slice none 0 0]) ?_ 3 _ rfl; (with_reducible repeat (first | refine blk_drewN ?_ _ | refine blk_drew ?_ | refine blk_alloc ?_ _)); refine blk_put (cs := #[.slice Ao8 t339.length co8, .slice Ao12 t342.length co12, .int .i64 0, .slice none 0 0]) ?_ 2 _ rfl; (with_reducible repeat (first | refine blk_drewN ?_ _ | refine blk_drew ?_ | refine blk_alloc ?_ _)); refine blk_put (cs := #[.slice Ao8 t339.length co8, .slice none 0 0, .int .i64 0, .slice none 0 0]) ?_ 1 _ rfl; (with_reducible repeat (first | refine blk_drewN ?_ _ | refine blk_drew ?_ | refine blk_alloc ?_ _)); refine blk_put (cs := #[.slice none 0 0, .slice none 0 0, .int .i64 0, .slice none 0 0]) ?_ 0 _ rfl; (with_reducible repeat (first | refine blk_drewN ?_ _ | refine blk_drew ?_ | refine blk_alloc ?_ _)); exact BK351.out) NB351_0.out (by simp)) (KeepBut.trans (g44 HK.out GW338.out GW351.out) hk (.inl rfl)) hb hi; clear BK338 HO341 HO344 HO348 BK351 HK HB HI0; obtain ⟨BK338, HO341, HO344, HO348, BK351, HK, HB, HI0⟩ := n_; (try clear hb); (try clear hb2); (try clear hk); (try clear hi)))
 (try simp only [Act.put, List.setIfInBounds_toArray, List.set_cons_zero, List.set_cons_succ])
 have H := HZ4.out
 clear HZ4
 by_cases c15 : t352 = 0
 case pos =>
  rw [if_pos c15] at H
  have c15b0 : (t352 == 0) = true := beq_iff_eq.mpr c15
  have c15b1 : (t352 != 0) = false := bne_eq_false_iff_eq.mpr c15
  clear c15
  (first | rw [c15b0] | (simp only [i64_w, i32_w]; rw [c15b0]) | skip)
  obtain ⟨y355, hy355⟩ : ∃ y_ : List ByteArray, y_ = (([(⟨#[]⟩ : ByteArray), (⟨#[65]⟩ : ByteArray), (⟨#[98]⟩ : ByteArray), (⟨#[97, 98, 99, 100, 101, 102, 103, 104, 105, 106, 107, 108, 109]⟩ : ByteArray)] : List ByteArray)) := ⟨_, rfl⟩
  replace H : ((spec_l1Pick.f s0_0 t353 t354 y355).bind fun bt358 => (if 0 < (t339.length : Int) then (some ((t339.set (0 : Int).toNat bt358.1), t342, t345, t346, bt358.2.1, bt358.2.2)) else (none))) = some (r1, r2, r3, r4, r5, r6) := by first | (rw [hy355]; with_reducible exact H) | (have H2_ := (Option.bind_some _ _).symm.trans H; rw [hy355]; with_reducible exact H2_) | (have H2_ := (Option.bind_some _ _).symm.trans H; with_reducible exact H2_) | with_reducible exact H | (rw [hy355]; exact H) | exact H
  have Ny355 := Aside0.mk hy355
  clear hy355
  replace H := Option.bind_eq_some_iff.mp H
  obtain ⟨⟨t358, t359, t360⟩, A160, H⟩ := H
  replace H : (if 0 < (t339.length : Int) then (some ((t339.set (0 : Int).toNat t358), t342, t345, t346, t359, t360)) else (none)) = some (r1, r2, r3, r4, r5, r6) := H
  have A16 := Aside0.mk A160
  clear A160
  by_cases c17 : 0 < (t339.length : Int)
  case neg =>
   rw [if_neg c17] at H
   exact absurd H (by simp)
  rw [if_pos c17] at H
  have c17b0 : decide (0 < (t339.length : Int)) = true := decide_eq_true c17
  have c17b1 : decide (0 < t339.length) = true := decide_eq_true (by omega)
  clear c17
  obtain ⟨y361, hy361⟩ : ∃ y_ : List ByteArray, y_ = (t339.set (0 : Int).toNat t358) := ⟨_, rfl⟩
  replace H : (some (y361, t342, t345, t346, t359, t360)) = some (r1, r2, r3, r4, r5, r6) := by first | (rw [hy361]; with_reducible exact H) | (have H2_ := (Option.bind_some _ _).symm.trans H; rw [hy361]; with_reducible exact H2_) | (have H2_ := (Option.bind_some _ _).symm.trans H; with_reducible exact H2_) | with_reducible exact H | (rw [hy361]; exact H) | exact H
  have Ny361 := Aside0.mk hy361
  clear hy361
  simp only [Option.some.injEq, Prod.mk.injEq] at H
  obtain ⟨rfl, rfl, rfl, rfl, rfl, rfl⟩ := H
  try go_wp2
  have n_ := spec_l24Bent.K8_ (Kd.R_drew HO341.out) (Kd.R_drew HO344.out) (Kd.S_drew HO348.out) (blk_drew BK338.out) (blk_drew BK351.out) (IsS105.drew HI0.out) (keep_drew HK.out) (below_drew1 HB.out)
  clear HO341 HO344 HO348 BK338 BK351 HI0 HK HB
  obtain ⟨HO341, HO344, HO348, BK338, BK351, HI0, HK, HB⟩ := n_
  refine start_ (n := 7) (S := fun w' => w'.cell? ⟨gb351, 0, none⟩ = some (.slice Ao8 t339.length co8) ∧ w'.cell? ⟨gb351, 1, none⟩ = some (.slice Ao12 t342.length co12) ∧ w'.cell? ⟨gb351, 2, none⟩ = some (.int .i64 t345) ∧ w'.cell? ⟨gb351, 3, none⟩ = some (.slice Ao13 t346.length co13)) (ds := [6]) #[false, false, false, false, false, false, false] (by kernel_rfl) rfl rfl ⟨(blk_cell BK351.out 0).trans rfl, (blk_cell BK351.out 1).trans rfl, (blk_cell BK351.out 2).trans rfl, (blk_cell BK351.out 3).trans rfl⟩ (fun hHeld => ?_)
  generalize w14.drew = w19 at HO341 HO344 HO348 BK338 BK351 HI0 HK HB hHeld ⊢
  refine pure_ (i := 0) (N := some 10) (v := ?_) (a' := ?_) #[true, false, false, false, false, false, false] rfl rfl (by kernel_rfl) (fun _ _ _ h => h) (Or.inl ⟨by rfl, ?_⟩) ?_ ?_
  rotate_left
  ·intro w'
   go_simp
   with_reducible rfl
  rotate_left
  ·exact ga0
  refine pure_ (i := 2) (N := some 12) (v := ?_) (a' := ?_) #[true, false, true, false, false, false, false] rfl rfl (by kernel_rfl) (fun _ _ _ h => h) (Or.inl ⟨by rfl, ?_⟩) ?_ ?_
  rotate_left
  ·intro w'
   go_simp
   with_reducible rfl
  rotate_left
  ·exact ga0
  refine take_ (i := 1) (N := some 11) (v := ?_) (a' := ?_) #[true, true, true, false, false, false, false] rfl rfl (by kernel_rfl) (fun _ _ _ h => h) (Or.inl ⟨by rfl, ?_⟩) hHeld ?_ ?_
  rotate_left
  ·rintro w' ⟨s0, s1, s2, s3⟩
   go_simp
   with_reducible rfl
  rotate_left
  ·exact ga0
  refine one_ (i := 3) (N := some 13) #[true, true, true, true, false, false, false] rfl rfl (by kernel_rfl) (by decide) (fun K hK => ?_)
  refine Kd.R_lit_step Kd.string _ 9 ?hg (N := 13) ?hd (xs := ([(⟨#[]⟩ : ByteArray), (⟨#[65]⟩ : ByteArray), (⟨#[98]⟩ : ByteArray), (⟨#[97, 98, 99, 100, 101, 102, 103, 104, 105, 106, 107, 108, 109]⟩ : ByteArray)] : List ByteArray)) (inner := [.string (⟨#[]⟩ : ByteArray), .string (⟨#[65]⟩ : ByteArray), .string (⟨#[98]⟩ : ByteArray), .string (⟨#[97, 98, 99, 100, 101, 102, 103, 104, 105, 106, 107, 108, 109]⟩ : ByteArray)]) (ok := fun _ => True) (okp := fun _ => True) ?hr ?hp (fun _ hk => hk) trivial (Below.refl _ _) (Nat.le_refl _) (by simp) ?_; (case hd => rfl); (case hg => rfl); (case hr => exact g10); (case hp => exact (Reps.one (show Kd.M Kd.string _ _ _ (⟨#[]⟩ : ByteArray) [.string (⟨#[]⟩ : ByteArray)] from rfl) (Reps.one (show Kd.M Kd.string _ _ _ (⟨#[65]⟩ : ByteArray) [.string (⟨#[65]⟩ : ByteArray)] from rfl) (Reps.one (show Kd.M Kd.string _ _ _ (⟨#[98]⟩ : ByteArray) [.string (⟨#[98]⟩ : ByteArray)] from rfl) (Reps.one (show Kd.M Kd.string _ _ _ (⟨#[97, 98, 99, 100, 101, 102, 103, 104, 105, 106, 107, 108, 109]⟩ : ByteArray) [.string (⟨#[97, 98, 99, 100, 101, 102, 103, 104, 105, 106, 107, 108, 109]⟩ : ByteArray)] from rfl) (Reps.none _ _))))))
  intro v356 w20 ho21 hb hg_ hnew_
  clear hg_ hnew_
  (first | rw [← Ny355.out] at ho21 | (simp only [Int.reduceToNat] at ho21; rw [← Ny355.out] at ho21))
  have n_ := spec_l24Bent.K9_ (Kd.R_elder' (g1 HO341.out) (Kd.R_base ho21) hb) (Kd.R_below (g1 HO344.out) hb) (Kd.S_below (g25 HO348.out) hb) (Kd.R_lower (Kd.R_new' ho21 (Kd.R_lt (g1 HO341.out))) (keep_size (w := w) (g := g) (row := none) (g44 HK.out GW338.out GW351.out))) (IsS105.below (g42 HI0.out NB0_338.out NB0_351.out) hb) (blk_below (g := gb338) (o := .cells #[.slice none 0 0, .slice none 0 0, .int .i64 0, .slice none 0 0] 46 (0, 0)) (g2 BK338.out) hb) (blk_below (g := gb351) (o := .cells #[.slice Ao8 t339.length co8, .slice Ao12 t342.length co12, .int .i64 t345, .slice Ao13 t346.length co13] 46 (0, 0)) (g2 BK351.out) hb) (KeepBut.trans (g44 HK.out GW338.out GW351.out) (KeepBut.of_below hb g none) (.inl rfl)) (below_step (g43 HB.out HI0.out GE338.out GE351.out) hb)
  clear HO341 HO344 HO348 HI0 BK338 BK351 HK HB
  obtain ⟨HO341, HO344, HO348, HO357, HI0, BK338, BK351, HK, HB⟩ := n_
  clear hb ho21
  obtain ⟨Ao22, co22, eo22⟩ := Kd.R_slice HO357.out
  (first | subst eo22 | (injection eo22 with f1_ f2_ f3_; have f4_ := f1_.symm; have f5_ := f3_.symm; clear f1_ f2_ f3_; subst f4_; subst f5_))
  refine hK.out _ _ ⟨(blk_cell BK351.out 0).trans rfl, (blk_cell BK351.out 1).trans rfl, (blk_cell BK351.out 2).trans rfl, (blk_cell BK351.out 3).trans rfl⟩ (fun hHeld => ?_)
  clear hK K
  refine norm_ (a' := ?_) ?_ ?_
  rotate_left
  ·show Act.put _ (some 13) _ = _
   simp only [Act.put, List.setIfInBounds_toArray, List.set_cons_zero, List.set_cons_succ, i64_w, i32_w]
   rfl
  refine one_ (i := 4) (N := some 14) #[true, true, true, true, true, false, false] rfl rfl (by kernel_rfl) (by decide) (fun K hK => ?_)
  refine goes_ Try.func103 (by kernel_rfl) rfl #[.pointer (some ⟨g, 0, none⟩), .slice Ao22 y355.length co22] (by rfl) rfl rfl (g9) ?_
  with_reducible refine (spec_l1Pick.calls g s0_0 t353 t354 _ _ y355 t358 t359 t360 w0 _ ?side1 ?side2 ?side3 ?side4 ?side5 A16.out).mono ?_
  (case side1 => exact g42 HI0.out NB0_338.out NB0_351.out)
  (case side2 => exact g43 HB.out HI0.out GE338.out GE351.out)
  (case side3 => exact g26 HO357.out)
  (case side4 => exact (Kd.R_reads' HO357.out).2.1)
  (case side5 => exact g50 HI0.out HO357.out)
  rintro e w23 ⟨rfl, hi, hb, hk⟩
  refine ⟨_, rfl, ?_⟩
  have n_ := spec_l24Bent.K9_ (KeepBut.blk hk (g' := gb338) (o := .cells #[.slice none 0 0, .slice none 0 0, .int .i64 0, .slice none 0 0] 46 (0, 0)) (g2 BK338.out) NB338_0.out (by simp)) (Kd.R_mono (Kd.R_keep (IsS105.apart (show IsS105 w0 _ g s0_0 t353 t354 from by repeat (first | (with_reducible first | exact HI0.out | apply IsS105.alloc | apply IsS105.drewN | apply IsS105.drew | apply IsS105.set_1 | apply IsS105.set_2 | refine IsS105.far ?_ NB0_338.out _ | refine IsS105.far ?_ NB0_351.out _) | exact HI0.out)) (g1 HO341.out) (by decide)) hk (fun _ h => h.2)) (fun _ h => h.1)) (Kd.R_mono (Kd.R_keep (IsS105.apart (show IsS105 w0 _ g s0_0 t353 t354 from by repeat (first | (with_reducible first | exact HI0.out | apply IsS105.alloc | apply IsS105.drewN | apply IsS105.drew | apply IsS105.set_1 | apply IsS105.set_2 | refine IsS105.far ?_ NB0_338.out _ | refine IsS105.far ?_ NB0_351.out _) | exact HI0.out)) (g1 HO344.out) (by decide)) hk (fun _ h => h.2)) (fun _ h => h.1)) (Kd.S_mono (Kd.S_keep (IsS105.apartS (show IsS105 w0 _ g s0_0 t353 t354 from by repeat (first | (with_reducible first | exact HI0.out | apply IsS105.alloc | apply IsS105.drewN | apply IsS105.drew | apply IsS105.set_1 | apply IsS105.set_2 | refine IsS105.far ?_ NB0_338.out _ | refine IsS105.far ?_ NB0_351.out _) | exact HI0.out)) (g25 HO348.out) (by decide)) hk (fun _ h => h.2)) (fun _ h => h.1)) (KeepBut.blk hk (g' := gb351) (o := .cells #[.slice Ao8 t339.length co8, .slice Ao12 t342.length co12, .int .i64 t345, .slice Ao13 t346.length co13] 46 (0, 0)) (g2 BK351.out) NB351_0.out (by simp)) (Kd.R_mono (Kd.R_keep (IsS105.apart (show IsS105 w0 _ g s0_0 t353 t354 from by repeat (first | (with_reducible first | exact HI0.out | apply IsS105.alloc | apply IsS105.drewN | apply IsS105.drew | apply IsS105.set_1 | apply IsS105.set_2 | refine IsS105.far ?_ NB0_338.out _ | refine IsS105.far ?_ NB0_351.out _) | exact HI0.out)) (g1 HO357.out) (by decide)) hk (fun _ h => h.2)) (fun _ h => h.1)) (KeepBut.trans (g44 HK.out GW338.out GW351.out) hk (.inl rfl)) hb hi
  clear BK338 HO341 HO344 HO348 BK351 HO357 HK HB HI0
  obtain ⟨BK338, HO341, HO344, HO348, BK351, HO357, HK, HB, HI0⟩ := n_
  (try clear hb)
  (try clear hb2)
  (try clear hk)
  (try clear hi)
  have p18 : 0 ≤ (0 : Int) := (by omega)
  have q18 : (0 : Int) < ((t339.length : Int) : Int) := of_decide_eq_true (g6)
  have qi18 : (0 < t339.length) = True := eq_true (by omega)
  obtain ⟨go18, co18, eo18, gb18, gl18, cl18, HG18⟩ := Kd.R_form HO341.out (by omega)
  (first | cases eo18 | (injection eo18 with ea_ en_ ec_; (first | subst ea_ | (injection ea_ with ea_; subst ea_)); subst ec_; clear en_))
  have GB18 := Aside0.mk gb18
  have GG18 := Aside0.mk HG18
  clear gb18 gl18 HG18
  obtain ⟨hx18_0, hf18_0⟩ := Kd.R_celln (⟨#[]⟩ : ByteArray) HO341.out (0 : Int) p18 q18
  (try rw [show ((0 : Int)).toNat = 0 from rfl] at hx18_0)
  (try simp only [Nat.reduceMul, Nat.zero_mul, Nat.zero_add, Nat.reduceAdd] at hx18_0)
  (try rw [show ((0 : Int)).toNat = 0 from rfl] at hf18_0)
  (try simp only [Nat.reduceMul, Nat.zero_mul, Nat.zero_add, Nat.reduceAdd] at hf18_0)
  replace p18 := eq_true p18
  replace q18 := eq_true q18
  have HN0_go18 := Aside0.mk (show g ≠ go18 from by have h_ := IsS105.own_ne HI0.out HO341.out (by decide); intro e_; exact h_ (by rw [e_]; rfl))
  have HP24 := Kd.R_putn HO341.out (0 : Int) t358
  rw [← Ny361.out] at HP24
  have HQ24 := Aside0.mk HP24
  clear HP24
  refine hK.out _ _ ⟨(blk_cell BK351.out 0).trans rfl, (blk_cell BK351.out 1).trans rfl, (blk_cell BK351.out 2).trans rfl, (blk_cell BK351.out 3).trans rfl⟩ (fun hHeld => ?_)
  clear hK K
  refine norm_ (a' := ?_) ?_ ?_
  rotate_left
  ·show Act.put _ (some 14) _ = _
   simp only [Act.put, List.setIfInBounds_toArray, List.set_cons_zero, List.set_cons_succ, i64_w, i32_w]
   rfl
  refine pure_ (i := 5) (N := some 15) (v := ?_) (a' := ?_) #[true, true, true, true, true, true, false] rfl rfl (by kernel_rfl) (fun _ _ _ h => h) (Or.inl ⟨by rfl, ?_⟩) ?_ ?_
  rotate_left
  ·intro w'
   go_simp
   with_reducible rfl
  rotate_left
  ·exact ga0
  refine last_ (i := 6) (N := none) #[true, true, true, true, true, true, true] rfl rfl (by kernel_rfl) (by decide) (fun K hK => ?_)
  refine skip_ (w1 := ?_) (by rfl) rfl ?_ ?_
  rotate_left
  ·go_simp
   rfl
  refine hK.out _ _ ?_
  clear hK K
  refine done_ (by kernel_rfl) ?_
  have n0_ : Aside0 (Kd.R Kd.string 9 (w23.setCell ⟨go18, 0, none⟩ (.string t358)) w.heap.size (fun k_ => some k_ ≠ (.slice Ao22 y355.length co22 : Value).ownBlock) (.slice (some ⟨go18, 0, none⟩) t339.length co8) y361) := ⟨by (with_reducible repeat (first | apply Kd.R_alloc | apply Kd.R_drewN | apply Kd.R_drew)); exact Kd.R_mono HQ24.out (fun _ hk => hk.2)⟩
  have n1_ : Aside0 (Kd.R (Kd.int .i64) 3 (w23.setCell ⟨go18, 0, none⟩ (.string t358)) w.heap.size (fun _ => True) (.slice Ao12 t342.length co12) t342) := ⟨by (with_reducible repeat (first | apply Kd.R_alloc | apply Kd.R_drewN | apply Kd.R_drew)); exact Kd.R_mono (Kd.R_far (p := ⟨go18, 0, none⟩) (Kd.R_types HO344.out GG18.out (by decide)) (fun _ hk => hk.2) (.string t358)) (fun _ hk => trivial)⟩
  have n2_ : Aside0 (Kd.S k68 68 (w23.setCell ⟨go18, 0, none⟩ (.string t358)) w.heap.size (fun _ => True) (.slice Ao13 t346.length co13) t346) := ⟨by (with_reducible repeat (first | apply Kd.S_alloc | apply Kd.S_drewN | apply Kd.S_drew)); exact Kd.S_mono (Kd.S_far (p := ⟨go18, 0, none⟩) (Kd.S_types HO348.out GG18.out (by decide)) (fun _ hk => hk.2) (.string t358)) (fun _ hk => trivial)⟩
  have n3_ : Aside0 (Kd.R Kd.string 9 (w23.setCell ⟨go18, 0, none⟩ (.string t358)) w.heap.size (fun k_ => some k_ ≠ (.slice (some ⟨go18, 0, none⟩) t339.length co8 : Value).ownBlock) (.slice Ao22 y355.length co22) y355) := ⟨by (with_reducible repeat (first | apply Kd.R_alloc | apply Kd.R_drewN | apply Kd.R_drew)); exact Kd.R_mono (Kd.R_far (p := ⟨go18, 0, none⟩) (Kd.R_mono HO357.out (fun k_ hk => (⟨hk, fun e_ => hk.2 (by rw [e_]; rfl)⟩ : _ ∧ k_ ≠ go18))) (fun _ hk => hk.2) (.string t358)) (fun _ hk => hk.1.2)⟩
  have n4_ : Aside0 ((w23.setCell ⟨go18, 0, none⟩ (.string t358)).heap[gb338]? = some (.cells #[.slice none 0 0, .slice none 0 0, .int .i64 0, .slice none 0 0] 46 (0, 0))) := ⟨by (with_reducible repeat (first | refine blk_drewN ?_ _ | refine blk_drew ?_ | refine blk_alloc ?_ _)); refine blk_far ?_ (by have h_ := Kd.R_ne HO341.out BK338.out (by decide); intro e_; exact h_ (by rw [e_]; rfl)) _; (with_reducible repeat (first | refine blk_drewN ?_ _ | refine blk_drew ?_ | refine blk_alloc ?_ _)); exact BK338.out⟩
  have n5_ : Aside0 ((w23.setCell ⟨go18, 0, none⟩ (.string t358)).heap[gb351]? = some (.cells #[.slice (some ⟨go18, 0, none⟩) t339.length co8, .slice Ao12 t342.length co12, .int .i64 t345, .slice Ao13 t346.length co13] 46 (0, 0))) := ⟨by (with_reducible repeat (first | refine blk_drewN ?_ _ | refine blk_drew ?_ | refine blk_alloc ?_ _)); refine blk_far ?_ (by have h_ := Kd.R_ne HO341.out BK351.out (by decide); intro e_; exact h_ (by rw [e_]; rfl)) _; (with_reducible repeat (first | refine blk_drewN ?_ _ | refine blk_drew ?_ | refine blk_alloc ?_ _)); exact BK351.out⟩
  have n6_ : Aside0 (IsS105 w0 (w23.setCell ⟨go18, 0, none⟩ (.string t358)) g s0_0 t359 t360) := ⟨g46 HI0.out HN0_go18.out NB0_338.out NB0_351.out⟩
  have n7_ : Aside0 (KeepBut w (w23.setCell ⟨go18, 0, none⟩ (.string t358)) g none) := ⟨g47 HK.out GB18.out GW338.out GW351.out⟩
  have n8_ : Aside0 (Below w0.heap.size w0 (w23.setCell ⟨go18, 0, none⟩ (.string t358))) := ⟨g51 HB.out HL.out GB18.out HI0.out GE338.out GE351.out⟩
  (try clear HO341)
  (try clear HO344)
  (try clear HO348)
  (try clear HO357)
  (try clear BK338)
  (try clear BK351)
  (try clear HI0)
  (try clear HK)
  (try clear HB)
  generalize (w23.setCell ⟨go18, 0, none⟩ (.string t358)) = w25 at n0_ n1_ n2_ n3_ n4_ n5_ n6_ n7_ n8_ ⊢
  have HO341 := n0_
  have HO344 := n1_
  have HO348 := n2_
  have HO357 := n3_
  have BK338 := n4_
  have BK351 := n5_
  have HI0 := n6_
  have HK := n7_
  have HB := n8_
  clear n0_ n1_ n2_ n3_ n4_ n5_ n6_ n7_ n8_
  have hnb26 := NB351_338.out
  have hnc26 := NB338_351.out
  have hnb27 := NB351_0.out
  have hnc27 := NB0_351.out
  have hcz28_0 : w25.cell? ⟨gb351, 0, none⟩ = some (.slice (some ⟨go18, 0, none⟩) t339.length co8) := (blk_cell BK351.out 0).trans rfl
  have hcz28_1 : w25.cell? ⟨gb351, 1, none⟩ = some (.slice Ao12 t342.length co12) := (blk_cell BK351.out 1).trans rfl
  have hcz28_2 : w25.cell? ⟨gb351, 2, none⟩ = some (.int .i64 t345) := (blk_cell BK351.out 2).trans rfl
  have hcz28_3 : w25.cell? ⟨gb351, 3, none⟩ = some (.slice Ao13 t346.length co13) := (blk_cell BK351.out 3).trans rfl
  have hfz28_0 := blk_frozen BK351.out 0
  have hfz28_1 := blk_frozen BK351.out 1
  have hfz28_2 := blk_frozen BK351.out 2
  have hfz28_3 := blk_frozen BK351.out 3
  have hnb29 := NB338_0.out
  have hnc29 := NB0_338.out
  have hcz30_0 : w25.cell? ⟨gb338, 0, none⟩ = some (.slice none 0 0) := (blk_cell BK338.out 0).trans rfl
  have hcz30_1 : w25.cell? ⟨gb338, 1, none⟩ = some (.slice none 0 0) := (blk_cell BK338.out 1).trans rfl
  have hcz30_2 : w25.cell? ⟨gb338, 2, none⟩ = some (.int .i64 0) := (blk_cell BK338.out 2).trans rfl
  have hcz30_3 : w25.cell? ⟨gb338, 3, none⟩ = some (.slice none 0 0) := (blk_cell BK338.out 3).trans rfl
  have hfz30_0 := blk_frozen BK338.out 0
  have hfz30_1 := blk_frozen BK338.out 1
  have hfz30_2 := blk_frozen BK338.out 2
  have hfz30_3 := blk_frozen BK338.out 3
  try go_wp2
  refine bodyPost_ret (results_cell_row rfl _ _ gb338 46 #[.slice (some ⟨go18, 0, none⟩) t339.length co8, .slice Ao12 t342.length co12, .int .i64 t345, .slice Ao13 t346.length co13] (0, 0) _ rfl (by (with_reducible repeat (first | refine blk_drewN ?_ _ | refine blk_drew ?_ | refine blk_alloc ?_ _)); refine blk_put (cs := #[.slice (some ⟨go18, 0, none⟩) t339.length co8, .slice Ao12 t342.length co12, .int .i64 t345, .slice none 0 0]) ?_ 3 _ rfl; (with_reducible repeat (first | refine blk_drewN ?_ _ | refine blk_drew ?_ | refine blk_alloc ?_ _)); refine blk_put (cs := #[.slice (some ⟨go18, 0, none⟩) t339.length co8, .slice Ao12 t342.length co12, .int .i64 0, .slice none 0 0]) ?_ 2 _ rfl; (with_reducible repeat (first | refine blk_drewN ?_ _ | refine blk_drew ?_ | refine blk_alloc ?_ _)); refine blk_put (cs := #[.slice (some ⟨go18, 0, none⟩) t339.length co8, .slice none 0 0, .int .i64 0, .slice none 0 0]) ?_ 1 _ rfl; (with_reducible repeat (first | refine blk_drewN ?_ _ | refine blk_drew ?_ | refine blk_alloc ?_ _)); refine blk_put (cs := #[.slice none 0 0, .slice none 0 0, .int .i64 0, .slice none 0 0]) ?_ 0 _ rfl; (with_reducible repeat (first | refine blk_drewN ?_ _ | refine blk_drew ?_ | refine blk_alloc ?_ _)); exact BK338.out) Try.underlying46 rfl (by kernel_rfl)) rfl ?_
  exact ⟨_, _, _, g5, by (with_reducible repeat (first | apply Kd.R_alloc | apply Kd.R_drewN | apply Kd.R_drew)); exact Kd.R_mono (Kd.R_far (p := ⟨gb338, 3, none⟩) (Kd.R_far (p := ⟨gb338, 2, none⟩) (Kd.R_far (p := ⟨gb338, 1, none⟩) (Kd.R_far (p := ⟨gb338, 0, none⟩) (Kd.R_types HO341.out BK338.out (by decide)) (fun _ hk => hk.2) (.slice (some ⟨go18, 0, none⟩) t339.length co8)) (fun _ hk => hk.2) (.slice Ao12 t342.length co12)) (fun _ hk => hk.2) (.int .i64 t345)) (fun _ hk => hk.2) (.slice Ao13 t346.length co13)) (fun _ hk => trivial), by (with_reducible repeat (first | apply Kd.R_alloc | apply Kd.R_drewN | apply Kd.R_drew)); exact Kd.R_mono (Kd.R_far (p := ⟨gb338, 3, none⟩) (Kd.R_far (p := ⟨gb338, 2, none⟩) (Kd.R_far (p := ⟨gb338, 1, none⟩) (Kd.R_far (p := ⟨gb338, 0, none⟩) (Kd.R_types HO344.out BK338.out (by decide)) (fun _ hk => hk.2) (.slice (some ⟨go18, 0, none⟩) t339.length co8)) (fun _ hk => hk.2) (.slice Ao12 t342.length co12)) (fun _ hk => hk.2) (.int .i64 t345)) (fun _ hk => hk.2) (.slice Ao13 t346.length co13)) (fun _ hk => trivial), by (with_reducible repeat (first | apply Kd.S_alloc | apply Kd.S_drewN | apply Kd.S_drew)); exact Kd.S_mono (Kd.S_far (p := ⟨gb338, 3, none⟩) (Kd.S_far (p := ⟨gb338, 2, none⟩) (Kd.S_far (p := ⟨gb338, 1, none⟩) (Kd.S_far (p := ⟨gb338, 0, none⟩) (Kd.S_types HO348.out BK338.out (by decide)) (fun _ hk => hk.2) (.slice (some ⟨go18, 0, none⟩) t339.length co8)) (fun _ hk => hk.2) (.slice Ao12 t342.length co12)) (fun _ hk => hk.2) (.int .i64 t345)) (fun _ hk => hk.2) (.slice Ao13 t346.length co13)) (fun _ hk => trivial), g42 HI0.out NB0_338.out NB0_351.out, g43 HB.out HI0.out GE338.out GE351.out, g44 HK.out GW338.out GW351.out⟩
 rw [if_neg c15] at H
 have c15b0 : (t352 == 0) = false := beq_eq_false_iff_ne.mpr c15
 have c15b1 : (t352 != 0) = true := bne_iff_ne.mpr c15
 (first | rw [c15b0] | (simp only [i64_w, i32_w]; rw [c15b0]) | skip)
 by_cases c31 : t352 = 1
 case pos =>
  rw [if_pos c31] at H
  have c31b0 : (t352 == 1) = true := beq_iff_eq.mpr c31
  have c31b1 : (t352 != 1) = false := bne_eq_false_iff_eq.mpr c31
  clear c31
  by_cases c32 : t342.length < 17592186044416
  case neg =>
   rw [if_neg c32] at H
   exact absurd H (by simp)
  rw [if_pos c32] at H
  have LMc32 := Aside0.mk c32
  clear c32
  obtain ⟨y362, hy362⟩ : ∃ y_ : List Int, y_ = (t342 ++ [0]) := ⟨_, rfl⟩
  replace H : (some (t339, y362, t345, t346, t353, t354)) = some (r1, r2, r3, r4, r5, r6) := by first | (rw [hy362]; with_reducible exact H) | (have H2_ := (Option.bind_some _ _).symm.trans H; rw [hy362]; with_reducible exact H2_) | (have H2_ := (Option.bind_some _ _).symm.trans H; with_reducible exact H2_) | with_reducible exact H | (rw [hy362]; exact H) | exact H
  have Ny362 := Aside0.mk hy362
  clear hy362
  simp only [Option.some.injEq, Prod.mk.injEq] at H
  obtain ⟨rfl, rfl, rfl, rfl, rfl, rfl⟩ := H
  have hnb33 := NB351_338.out
  have hnc33 := NB338_351.out
  have hnb34 := NB351_0.out
  have hnc34 := NB0_351.out
  have hcz35_0 : w14.cell? ⟨gb351, 0, none⟩ = some (.slice Ao8 t339.length co8) := (blk_cell BK351.out 0).trans rfl
  have hcz35_1 : w14.cell? ⟨gb351, 1, none⟩ = some (.slice Ao12 t342.length co12) := (blk_cell BK351.out 1).trans rfl
  have hcz35_2 : w14.cell? ⟨gb351, 2, none⟩ = some (.int .i64 t345) := (blk_cell BK351.out 2).trans rfl
  have hcz35_3 : w14.cell? ⟨gb351, 3, none⟩ = some (.slice Ao13 t346.length co13) := (blk_cell BK351.out 3).trans rfl
  have hfz35_0 := blk_frozen BK351.out 0
  have hfz35_1 := blk_frozen BK351.out 1
  have hfz35_2 := blk_frozen BK351.out 2
  have hfz35_3 := blk_frozen BK351.out 3
  go_wp2_with (first | ((with_reducible refine gate_builtin (b := .append) (xs := #[.tmp 19, .tmp 20]) rfl ?_); at_builtin; refine Kd.R_append (Kd.int .i64) w.heap.size rfl (.tmp 19) (.tmp 20) 26 3 (.int .i64 0) 8 rfl Try.underlying26 info3 rfl (by decide) (by omega) (.slice Ao12 t342.length co12) t342 0 [.int .i64 0] (fun _ => True) (fun _ => False) rfl rfl ?aP (fun _ hk => hk.elim) ?aF ?aO (Below.refl _ _) ?aS ?aL ?_; (case aP => exact rfl); (case aF => exact (fun _ _ => trivial)); (case aO => exact g14 HO344.out); (case aS => exact (keep_size (w := w) (g := g) (row := none) (g44 HK.out GW338.out GW351.out))); (case aL => have := LMc32.out; omega); intro v363 w36 ho hb hg hat; rw [← Ny362.out] at ho; have n_ := spec_l24Bent.K8_ (IsS105.grown (g42 HI0.out NB0_338.out NB0_351.out) hg (IsS105.own_ne HI0.out HO344.out (by decide))) (blk_grown (g := gb338) (o := .cells #[.slice none 0 0, .slice none 0 0, .int .i64 0, .slice none 0 0] 46 (0, 0)) (g2 BK338.out) hg (Kd.R_ne HO344.out BK338.out (by decide))) (Kd.R_over' (g1 HO341.out) (Kd.R_typed (g1 HO344.out)) (by decide) hg) (Kd.S_over' (g25 HO348.out) (Kd.R_typed (g1 HO344.out)) (by decide) hg) (blk_grown (g := gb351) (o := .cells #[.slice Ao8 t339.length co8, .slice Ao12 t342.length co12, .int .i64 t345, .slice Ao13 t346.length co13] 46 (0, 0)) (g2 BK351.out) hg (Kd.R_ne HO344.out BK351.out (by decide))) (below_weaken (g43 HB.out HI0.out GE338.out GE351.out) HL.out hb) (KeepBut.trans (g44 HK.out GW338.out GW351.out) (KeepBut.of_grown hg g) (Kd.R_base2 HO344.out)) ho; clear HI0 BK338 HO341 HO348 BK351 HB HK HO344; obtain ⟨HI0, BK338, HO341, HO348, BK351, HB, HK, HO364⟩ := n_; clear ho hb hg hat; obtain ⟨Ao37, co37, eo37⟩ := Kd.R_slice HO364.out; subst eo37; have hcz38_0 : w36.cell? ⟨gb351, 0, none⟩ = some (.slice Ao8 t339.length co8) := (blk_cell BK351.out 0).trans rfl; have hcz38_1 : w36.cell? ⟨gb351, 1, none⟩ = some (.slice Ao12 t342.length co12) := (blk_cell BK351.out 1).trans rfl; have hcz38_2 : w36.cell? ⟨gb351, 2, none⟩ = some (.int .i64 t345) := (blk_cell BK351.out 2).trans rfl; have hcz38_3 : w36.cell? ⟨gb351, 3, none⟩ = some (.slice Ao13 t346.length co13) := (blk_cell BK351.out 3).trans rfl; have hfz38_0 := blk_frozen BK351.out 0; have hfz38_1 := blk_frozen BK351.out 1; have hfz38_2 := blk_frozen BK351.out 2; have hfz38_3 := blk_frozen BK351.out 3; have hnb39 := NB338_0.out; have hnc39 := NB0_338.out; have hcz40_0 : w36.cell? ⟨gb338, 0, none⟩ = some (.slice none 0 0) := (blk_cell BK338.out 0).trans rfl; have hcz40_1 : w36.cell? ⟨gb338, 1, none⟩ = some (.slice none 0 0) := (blk_cell BK338.out 1).trans rfl; have hcz40_2 : w36.cell? ⟨gb338, 2, none⟩ = some (.int .i64 0) := (blk_cell BK338.out 2).trans rfl; have hcz40_3 : w36.cell? ⟨gb338, 3, none⟩ = some (.slice none 0 0) := (blk_cell BK338.out 3).trans rfl; have hfz40_0 := blk_frozen BK338.out 0; have hfz40_1 := blk_frozen BK338.out 1; have hfz40_2 := blk_frozen BK338.out 2; have hfz40_3 := blk_frozen BK338.out 3))
  refine bodyPost_ret (results_cell_row rfl _ _ gb338 46 #[.slice Ao8 t339.length co8, .slice Ao37 y362.length co37, .int .i64 t345, .slice Ao13 t346.length co13] (0, 0) _ rfl (by (with_reducible repeat (first | refine blk_drewN ?_ _ | refine blk_drew ?_ | refine blk_alloc ?_ _)); refine blk_put (cs := #[.slice Ao8 t339.length co8, .slice Ao37 y362.length co37, .int .i64 t345, .slice none 0 0]) ?_ 3 _ rfl; (with_reducible repeat (first | refine blk_drewN ?_ _ | refine blk_drew ?_ | refine blk_alloc ?_ _)); refine blk_put (cs := #[.slice Ao8 t339.length co8, .slice Ao37 y362.length co37, .int .i64 0, .slice none 0 0]) ?_ 2 _ rfl; (with_reducible repeat (first | refine blk_drewN ?_ _ | refine blk_drew ?_ | refine blk_alloc ?_ _)); refine blk_put (cs := #[.slice Ao8 t339.length co8, .slice none 0 0, .int .i64 0, .slice none 0 0]) ?_ 1 _ rfl; (with_reducible repeat (first | refine blk_drewN ?_ _ | refine blk_drew ?_ | refine blk_alloc ?_ _)); refine blk_put (cs := #[.slice none 0 0, .slice none 0 0, .int .i64 0, .slice none 0 0]) ?_ 0 _ rfl; (with_reducible repeat (first | refine blk_drewN ?_ _ | refine blk_drew ?_ | refine blk_alloc ?_ _)); refine blk_far ?_ NB338_351.out _; (with_reducible repeat (first | refine blk_drewN ?_ _ | refine blk_drew ?_ | refine blk_alloc ?_ _)); exact BK338.out) Try.underlying46 rfl (by kernel_rfl)) rfl ?_
  exact ⟨_, _, _, g5, by (with_reducible repeat (first | apply Kd.R_alloc | apply Kd.R_drewN | apply Kd.R_drew)); exact Kd.R_mono (Kd.R_far (p := ⟨gb338, 3, none⟩) (Kd.R_far (p := ⟨gb338, 2, none⟩) (Kd.R_far (p := ⟨gb338, 1, none⟩) (Kd.R_far (p := ⟨gb338, 0, none⟩) (Kd.R_far (p := ⟨gb351, 1, none⟩) (Kd.R_types (Kd.R_types HO341.out BK351.out (by decide)) BK338.out (by decide)) (fun _ hk => hk.1.2) (.slice Ao37 y362.length co37)) (fun _ hk => hk.2) (.slice Ao8 t339.length co8)) (fun _ hk => hk.2) (.slice Ao37 y362.length co37)) (fun _ hk => hk.2) (.int .i64 t345)) (fun _ hk => hk.2) (.slice Ao13 t346.length co13)) (fun _ hk => trivial), by (with_reducible repeat (first | apply Kd.R_alloc | apply Kd.R_drewN | apply Kd.R_drew)); exact Kd.R_mono (Kd.R_far (p := ⟨gb338, 3, none⟩) (Kd.R_far (p := ⟨gb338, 2, none⟩) (Kd.R_far (p := ⟨gb338, 1, none⟩) (Kd.R_far (p := ⟨gb338, 0, none⟩) (Kd.R_far (p := ⟨gb351, 1, none⟩) (Kd.R_types (Kd.R_types HO364.out BK351.out (by decide)) BK338.out (by decide)) (fun _ hk => hk.1.2) (.slice Ao37 y362.length co37)) (fun _ hk => hk.2) (.slice Ao8 t339.length co8)) (fun _ hk => hk.2) (.slice Ao37 y362.length co37)) (fun _ hk => hk.2) (.int .i64 t345)) (fun _ hk => hk.2) (.slice Ao13 t346.length co13)) (fun _ hk => trivial), by (with_reducible repeat (first | apply Kd.S_alloc | apply Kd.S_drewN | apply Kd.S_drew)); exact Kd.S_mono (Kd.S_far (p := ⟨gb338, 3, none⟩) (Kd.S_far (p := ⟨gb338, 2, none⟩) (Kd.S_far (p := ⟨gb338, 1, none⟩) (Kd.S_far (p := ⟨gb338, 0, none⟩) (Kd.S_far (p := ⟨gb351, 1, none⟩) (Kd.S_types (Kd.S_types HO348.out BK351.out (by decide)) BK338.out (by decide)) (fun _ hk => hk.1.2) (.slice Ao37 y362.length co37)) (fun _ hk => hk.2) (.slice Ao8 t339.length co8)) (fun _ hk => hk.2) (.slice Ao37 y362.length co37)) (fun _ hk => hk.2) (.int .i64 t345)) (fun _ hk => hk.2) (.slice Ao13 t346.length co13)) (fun _ hk => trivial), g42 HI0.out NB0_338.out NB0_351.out, g43 HB.out HI0.out GE338.out GE351.out, g44 HK.out GW338.out GW351.out⟩
 rw [if_neg c31] at H
 have c31b0 : (t352 == 1) = false := beq_eq_false_iff_ne.mpr c31
 have c31b1 : (t352 != 1) = true := bne_iff_ne.mpr c31
 by_cases c41 : t352 = 2
 case pos =>
  rw [if_pos c41] at H
  have c41b0 : (t352 == 2) = true := beq_iff_eq.mpr c41
  have c41b1 : (t352 != 2) = false := bne_eq_false_iff_eq.mpr c41
  clear c41
  obtain ⟨y365, hy365⟩ : ∃ y_ : List Int, y_ = (([2147483647, 2147483648, (-2147483648)] : List Int)) := ⟨_, rfl⟩
  replace H : ((spec_l1PickInt.f s0_0 t353 t354 y365).bind fun bt368 => (some (t339, t342, bt368.1, t346, bt368.2.1, bt368.2.2))) = some (r1, r2, r3, r4, r5, r6) := by first | (rw [hy365]; with_reducible exact H) | (have H2_ := (Option.bind_some _ _).symm.trans H; rw [hy365]; with_reducible exact H2_) | (have H2_ := (Option.bind_some _ _).symm.trans H; with_reducible exact H2_) | with_reducible exact H | (rw [hy365]; exact H) | exact H
  have Ny365 := Aside0.mk hy365
  clear hy365
  replace H := Option.bind_eq_some_iff.mp H
  obtain ⟨⟨t368, t369, t370⟩, A420, H⟩ := H
  replace H : (some (t339, t342, t368, t346, t369, t370)) = some (r1, r2, r3, r4, r5, r6) := H
  have A42 := Aside0.mk A420
  clear A420
  simp only [Option.some.injEq, Prod.mk.injEq] at H
  obtain ⟨rfl, rfl, rfl, rfl, rfl, rfl⟩ := H
  go_wp2_with (first | ((with_reducible refine gate_dst (N := 26) rfl ?_); refine Kd.R_lit (Kd.int .i64) _ 3 ?hg (N := 26) ?hd (xs := ([2147483647, 2147483648, (-2147483648)] : List Int)) (inner := [.int .i64 2147483647, .int .i64 2147483648, .int .i64 (-2147483648)]) (ok := fun _ => True) (okp := fun _ => True) ?hr ?hp (fun _ hk => hk) trivial (Below.refl _ _) (Nat.le_refl _) (by simp) ?_; (case hd => rfl); (case hg => rfl); (case hr => exact g10); (case hp => exact (Reps.one (show Kd.M (Kd.int .i64) _ _ _ 2147483647 [.int .i64 2147483647] from rfl) (Reps.one (show Kd.M (Kd.int .i64) _ _ _ 2147483648 [.int .i64 2147483648] from rfl) (Reps.one (show Kd.M (Kd.int .i64) _ _ _ (-2147483648) [.int .i64 (-2147483648)] from rfl) (Reps.none _ _))))); intro v366 w43 ho44 hb hg_ hnew_; clear hg_ hnew_; (first | rw [← Ny365.out] at ho44 | (simp only [Int.reduceToNat] at ho44; rw [← Ny365.out] at ho44)); have n_ := spec_l24Bent.K9_ (Kd.R_below (g1 HO341.out) hb) (Kd.R_elder' (g1 HO344.out) (Kd.R_base ho44) hb) (Kd.S_below (g25 HO348.out) hb) (Kd.R_lower (Kd.R_new' ho44 (Kd.R_lt (g1 HO344.out))) (keep_size (w := w) (g := g) (row := none) (g44 HK.out GW338.out GW351.out))) (IsS105.below (g42 HI0.out NB0_338.out NB0_351.out) hb) (blk_below (g := gb338) (o := .cells #[.slice none 0 0, .slice none 0 0, .int .i64 0, .slice none 0 0] 46 (0, 0)) (g2 BK338.out) hb) (blk_below (g := gb351) (o := .cells #[.slice Ao8 t339.length co8, .slice Ao12 t342.length co12, .int .i64 t345, .slice Ao13 t346.length co13] 46 (0, 0)) (g2 BK351.out) hb) (KeepBut.trans (g44 HK.out GW338.out GW351.out) (KeepBut.of_below hb g none) (.inl rfl)) (below_step (g43 HB.out HI0.out GE338.out GE351.out) hb); clear HO341 HO344 HO348 HI0 BK338 BK351 HK HB; obtain ⟨HO341, HO344, HO348, HO367, HI0, BK338, BK351, HK, HB⟩ := n_; clear hb ho44; obtain ⟨Ao45, co45, eo45⟩ := Kd.R_slice HO367.out; subst eo45) | ((with_reducible refine gate_callee (f := 47) rfl ?_); refine goesL_ (some 27) rfl rfl Try.func47 (by kernel_rfl) rfl #[.pointer (some ⟨g, 0, none⟩), .slice Ao45 y365.length co45] rfl (g9) ?_; (with_reducible refine (spec_l1PickInt.calls g s0_0 t353 t354 _ _ y365 t368 t369 t370 w0 _ ?side1 ?side2 ?side3 ?side4 ?side5 A42.out).mono ?_); (case side1 => exact g42 HI0.out NB0_338.out NB0_351.out); (case side2 => exact g43 HB.out HI0.out GE338.out GE351.out); (case side3 => exact g26 HO367.out); (case side4 => exact (Kd.R_reads' HO367.out).2.1); (case side5 => exact g50 HI0.out HO367.out); rintro e w46 ⟨rfl, hi, hb, hk⟩; refine ⟨_, rfl, ?_⟩; have n_ := spec_l24Bent.K9_ (KeepBut.blk hk (g' := gb338) (o := .cells #[.slice none 0 0, .slice none 0 0, .int .i64 0, .slice none 0 0] 46 (0, 0)) (g2 BK338.out) NB338_0.out (by simp)) (Kd.R_mono (Kd.R_keep (IsS105.apart (show IsS105 w0 _ g s0_0 t353 t354 from by repeat (first | (with_reducible first | exact HI0.out | apply IsS105.alloc | apply IsS105.drewN | apply IsS105.drew | apply IsS105.set_1 | apply IsS105.set_2 | refine IsS105.far ?_ NB0_338.out _ | refine IsS105.far ?_ NB0_351.out _) | exact HI0.out)) (g1 HO341.out) (by decide)) hk (fun _ h => h.2)) (fun _ h => h.1)) (Kd.R_mono (Kd.R_keep (IsS105.apart (show IsS105 w0 _ g s0_0 t353 t354 from by repeat (first | (with_reducible first | exact HI0.out | apply IsS105.alloc | apply IsS105.drewN | apply IsS105.drew | apply IsS105.set_1 | apply IsS105.set_2 | refine IsS105.far ?_ NB0_338.out _ | refine IsS105.far ?_ NB0_351.out _) | exact HI0.out)) (g1 HO344.out) (by decide)) hk (fun _ h => h.2)) (fun _ h => h.1)) (Kd.S_mono (Kd.S_keep (IsS105.apartS (show IsS105 w0 _ g s0_0 t353 t354 from by repeat (first | (with_reducible first | exact HI0.out | apply IsS105.alloc | apply IsS105.drewN | apply IsS105.drew | apply IsS105.set_1 | apply IsS105.set_2 | refine IsS105.far ?_ NB0_338.out _ | refine IsS105.far ?_ NB0_351.out _) | exact HI0.out)) (g25 HO348.out) (by decide)) hk (fun _ h => h.2)) (fun _ h => h.1)) (KeepBut.blk hk (g' := gb351) (o := .cells #[.slice Ao8 t339.length co8, .slice Ao12 t342.length co12, .int .i64 t345, .slice Ao13 t346.length co13] 46 (0, 0)) (g2 BK351.out) NB351_0.out (by simp)) (Kd.R_mono (Kd.R_keep (IsS105.apart (show IsS105 w0 _ g s0_0 t353 t354 from by repeat (first | (with_reducible first | exact HI0.out | apply IsS105.alloc | apply IsS105.drewN | apply IsS105.drew | apply IsS105.set_1 | apply IsS105.set_2 | refine IsS105.far ?_ NB0_338.out _ | refine IsS105.far ?_ NB0_351.out _) | exact HI0.out)) (g1 HO367.out) (by decide)) hk (fun _ h => h.2)) (fun _ h => h.1)) (KeepBut.trans (g44 HK.out GW338.out GW351.out) hk (.inl rfl)) hb hi; clear BK338 HO341 HO344 HO348 BK351 HO367 HK HB HI0; obtain ⟨BK338, HO341, HO344, HO348, BK351, HO367, HK, HB, HI0⟩ := n_; (try clear hb); (try clear hb2); (try clear hk); (try clear hi); have hnb47 := NB351_338.out; have hnc47 := NB338_351.out; have hnb48 := NB351_0.out; have hnc48 := NB0_351.out; have hcz49_0 : w46.cell? ⟨gb351, 0, none⟩ = some (.slice Ao8 t339.length co8) := (blk_cell BK351.out 0).trans rfl; have hcz49_1 : w46.cell? ⟨gb351, 1, none⟩ = some (.slice Ao12 t342.length co12) := (blk_cell BK351.out 1).trans rfl; have hcz49_2 : w46.cell? ⟨gb351, 2, none⟩ = some (.int .i64 t345) := (blk_cell BK351.out 2).trans rfl; have hcz49_3 : w46.cell? ⟨gb351, 3, none⟩ = some (.slice Ao13 t346.length co13) := (blk_cell BK351.out 3).trans rfl; have hfz49_0 := blk_frozen BK351.out 0; have hfz49_1 := blk_frozen BK351.out 1; have hfz49_2 := blk_frozen BK351.out 2; have hfz49_3 := blk_frozen BK351.out 3; have hnb50 := NB338_0.out; have hnc50 := NB0_338.out; have hcz51_0 : w46.cell? ⟨gb338, 0, none⟩ = some (.slice none 0 0) := (blk_cell BK338.out 0).trans rfl; have hcz51_1 : w46.cell? ⟨gb338, 1, none⟩ = some (.slice none 0 0) := (blk_cell BK338.out 1).trans rfl; have hcz51_2 : w46.cell? ⟨gb338, 2, none⟩ = some (.int .i64 0) := (blk_cell BK338.out 2).trans rfl; have hcz51_3 : w46.cell? ⟨gb338, 3, none⟩ = some (.slice none 0 0) := (blk_cell BK338.out 3).trans rfl; have hfz51_0 := blk_frozen BK338.out 0; have hfz51_1 := blk_frozen BK338.out 1; have hfz51_2 := blk_frozen BK338.out 2; have hfz51_3 := blk_frozen BK338.out 3))
  refine bodyPost_ret (results_cell_row rfl _ _ gb338 46 #[.slice Ao8 t339.length co8, .slice Ao12 t342.length co12, .int .i64 t368, .slice Ao13 t346.length co13] (0, 0) _ rfl (by (with_reducible repeat (first | refine blk_drewN ?_ _ | refine blk_drew ?_ | refine blk_alloc ?_ _)); refine blk_put (cs := #[.slice Ao8 t339.length co8, .slice Ao12 t342.length co12, .int .i64 t368, .slice none 0 0]) ?_ 3 _ rfl; (with_reducible repeat (first | refine blk_drewN ?_ _ | refine blk_drew ?_ | refine blk_alloc ?_ _)); refine blk_put (cs := #[.slice Ao8 t339.length co8, .slice Ao12 t342.length co12, .int .i64 0, .slice none 0 0]) ?_ 2 _ rfl; (with_reducible repeat (first | refine blk_drewN ?_ _ | refine blk_drew ?_ | refine blk_alloc ?_ _)); refine blk_put (cs := #[.slice Ao8 t339.length co8, .slice none 0 0, .int .i64 0, .slice none 0 0]) ?_ 1 _ rfl; (with_reducible repeat (first | refine blk_drewN ?_ _ | refine blk_drew ?_ | refine blk_alloc ?_ _)); refine blk_put (cs := #[.slice none 0 0, .slice none 0 0, .int .i64 0, .slice none 0 0]) ?_ 0 _ rfl; (with_reducible repeat (first | refine blk_drewN ?_ _ | refine blk_drew ?_ | refine blk_alloc ?_ _)); refine blk_far ?_ NB338_351.out _; (with_reducible repeat (first | refine blk_drewN ?_ _ | refine blk_drew ?_ | refine blk_alloc ?_ _)); exact BK338.out) Try.underlying46 rfl (by kernel_rfl)) rfl ?_
  exact ⟨_, _, _, g5, by (with_reducible repeat (first | apply Kd.R_alloc | apply Kd.R_drewN | apply Kd.R_drew)); exact Kd.R_mono (Kd.R_far (p := ⟨gb338, 3, none⟩) (Kd.R_far (p := ⟨gb338, 2, none⟩) (Kd.R_far (p := ⟨gb338, 1, none⟩) (Kd.R_far (p := ⟨gb338, 0, none⟩) (Kd.R_far (p := ⟨gb351, 2, none⟩) (Kd.R_types (Kd.R_types HO341.out BK351.out (by decide)) BK338.out (by decide)) (fun _ hk => hk.1.2) (.int .i64 t368)) (fun _ hk => hk.2) (.slice Ao8 t339.length co8)) (fun _ hk => hk.2) (.slice Ao12 t342.length co12)) (fun _ hk => hk.2) (.int .i64 t368)) (fun _ hk => hk.2) (.slice Ao13 t346.length co13)) (fun _ hk => trivial), by (with_reducible repeat (first | apply Kd.R_alloc | apply Kd.R_drewN | apply Kd.R_drew)); exact Kd.R_mono (Kd.R_far (p := ⟨gb338, 3, none⟩) (Kd.R_far (p := ⟨gb338, 2, none⟩) (Kd.R_far (p := ⟨gb338, 1, none⟩) (Kd.R_far (p := ⟨gb338, 0, none⟩) (Kd.R_far (p := ⟨gb351, 2, none⟩) (Kd.R_types (Kd.R_types HO344.out BK351.out (by decide)) BK338.out (by decide)) (fun _ hk => hk.1.2) (.int .i64 t368)) (fun _ hk => hk.2) (.slice Ao8 t339.length co8)) (fun _ hk => hk.2) (.slice Ao12 t342.length co12)) (fun _ hk => hk.2) (.int .i64 t368)) (fun _ hk => hk.2) (.slice Ao13 t346.length co13)) (fun _ hk => trivial), by (with_reducible repeat (first | apply Kd.S_alloc | apply Kd.S_drewN | apply Kd.S_drew)); exact Kd.S_mono (Kd.S_far (p := ⟨gb338, 3, none⟩) (Kd.S_far (p := ⟨gb338, 2, none⟩) (Kd.S_far (p := ⟨gb338, 1, none⟩) (Kd.S_far (p := ⟨gb338, 0, none⟩) (Kd.S_far (p := ⟨gb351, 2, none⟩) (Kd.S_types (Kd.S_types HO348.out BK351.out (by decide)) BK338.out (by decide)) (fun _ hk => hk.1.2) (.int .i64 t368)) (fun _ hk => hk.2) (.slice Ao8 t339.length co8)) (fun _ hk => hk.2) (.slice Ao12 t342.length co12)) (fun _ hk => hk.2) (.int .i64 t368)) (fun _ hk => hk.2) (.slice Ao13 t346.length co13)) (fun _ hk => trivial), g42 HI0.out NB0_338.out NB0_351.out, g43 HB.out HI0.out GE338.out GE351.out, g44 HK.out GW338.out GW351.out⟩
 rw [if_neg c41] at H
 have c41b0 : (t352 == 2) = false := beq_eq_false_iff_ne.mpr c41
 have c41b1 : (t352 != 2) = true := bne_iff_ne.mpr c41
 by_cases c52 : t352 = 3
 case pos =>
  rw [if_pos c52] at H
  have c52b0 : (t352 == 3) = true := beq_iff_eq.mpr c52
  have c52b1 : (t352 != 3) = false := bne_eq_false_iff_eq.mpr c52
  clear c52
  replace H := Option.bind_eq_some_iff.mp H
  obtain ⟨⟨t371, t374, t375⟩, A530, H⟩ := H
  replace H : (if t346.length < 5864062014805 then (some (t339, t342, t345, (t346 ++ [(⟨t371⟩ : S68)]), t374, t375)) else (none)) = some (r1, r2, r3, r4, r5, r6) := H
  have A53 := Aside0.mk A530
  clear A530
  by_cases c54 : t346.length < 5864062014805
  case neg =>
   rw [if_neg c54] at H
   exact absurd H (by simp)
  rw [if_pos c54] at H
  have LMc54 := Aside0.mk c54
  clear c54
  obtain ⟨y376, hy376⟩ : ∃ y_ : List (S68), y_ = (t346 ++ [(⟨t371⟩ : S68)]) := ⟨_, rfl⟩
  replace H : (some (t339, t342, t345, y376, t374, t375)) = some (r1, r2, r3, r4, r5, r6) := by first | (rw [hy376]; with_reducible exact H) | (have H2_ := (Option.bind_some _ _).symm.trans H; rw [hy376]; with_reducible exact H2_) | (have H2_ := (Option.bind_some _ _).symm.trans H; with_reducible exact H2_) | with_reducible exact H | (rw [hy376]; exact H) | exact H
  have Ny376 := Aside0.mk hy376
  clear hy376
  simp only [Option.some.injEq, Prod.mk.injEq] at H
  obtain ⟨rfl, rfl, rfl, rfl, rfl, rfl⟩ := H
  try go_wp2
  have n_ := spec_l24Bent.K8_ (Kd.R_drew HO341.out) (Kd.R_drew HO344.out) (Kd.S_drew HO348.out) (blk_drew BK338.out) (blk_drew BK351.out) (IsS105.drew HI0.out) (keep_drew HK.out) (below_drew1 HB.out)
  clear HO341 HO344 HO348 BK338 BK351 HI0 HK HB
  obtain ⟨HO341, HO344, HO348, BK338, BK351, HI0, HK, HB⟩ := n_
  refine start_ (n := 8) (S := fun w' => w'.cell? ⟨gb351, 0, none⟩ = some (.slice Ao8 t339.length co8) ∧ w'.cell? ⟨gb351, 1, none⟩ = some (.slice Ao12 t342.length co12) ∧ w'.cell? ⟨gb351, 2, none⟩ = some (.int .i64 t345) ∧ w'.cell? ⟨gb351, 3, none⟩ = some (.slice Ao13 t346.length co13)) (ds := [7]) #[false, false, false, false, false, false, false, false] (by kernel_rfl) rfl rfl ⟨(blk_cell BK351.out 0).trans rfl, (blk_cell BK351.out 1).trans rfl, (blk_cell BK351.out 2).trans rfl, (blk_cell BK351.out 3).trans rfl⟩ (fun hHeld => ?_); refine with_tabW spec_l24Bent.tab10 spec_l24Bent.bits10 (fun HT_ HW_ => ?_)
  generalize w14.drew = w55 at HO341 HO344 HO348 BK338 BK351 HI0 HK HB hHeld ⊢
  refine pure_ (i := 0) (N := some 31) (v := ?_) (a' := ?_) #[true, false, false, false, false, false, false, false] rfl rfl (any_of HT_.out (by kernel_rfl)) (fun _ _ _ h => h) (Or.inl ⟨by rfl, ?_⟩) ?_ ?_
  rotate_left
  ·intro w'
   go_simp
   with_reducible rfl
  rotate_left
  ·exact ga0
  refine pure_ (i := 2) (N := some 33) (v := ?_) (a' := ?_) #[true, false, true, false, false, false, false, false] rfl rfl (any_of HT_.out (by kernel_rfl)) (fun _ _ _ h => h) (Or.inl ⟨by rfl, ?_⟩) ?_ ?_
  rotate_left
  ·intro w'
   go_simp
   with_reducible rfl
  rotate_left
  ·exact ga0
  refine take_ (i := 1) (N := some 32) (v := ?_) (a' := ?_) #[true, true, true, false, false, false, false, false] rfl rfl (take_ofW HT_.out HW_.out (by kernel_rfl)) (fun _ _ _ h => h) (Or.inl ⟨by rfl, ?_⟩) hHeld ?_ ?_
  rotate_left
  ·rintro w' ⟨s0, s1, s2, s3⟩
   go_simp
   with_reducible rfl
  rotate_left
  ·exact ga0
  refine one_ (i := 3) (N := some 34) #[true, true, true, true, false, false, false, false] rfl rfl (one_of HT_.out (by kernel_rfl)) (by decide) (fun K hK => ?_)
  refine goes_ Try.func121 (by kernel_rfl) rfl #[.pointer (some ⟨g, 0, none⟩)] (by rfl) rfl rfl (g9) ?_
  with_reducible refine (spec_l17Bent.calls k g s0_0 t353 t354 t371 t374 t375 w0 _ ?side1 ?side2 A53.out).mono ?_
  (case side1 => exact g42 HI0.out NB0_338.out NB0_351.out)
  (case side2 => exact g43 HB.out HI0.out GE338.out GE351.out)
  rintro e w56 ⟨v372, rfl, ho0, hi, hb, hk⟩
  refine ⟨_, rfl, ?_⟩
  have n_ := spec_l24Bent.K9_ (KeepBut.blk hk (g' := gb338) (o := .cells #[.slice none 0 0, .slice none 0 0, .int .i64 0, .slice none 0 0] 46 (0, 0)) (g2 BK338.out) NB338_0.out (by simp)) (Kd.R_mono (Kd.R_keep (IsS105.apart (show IsS105 w0 _ g s0_0 t353 t354 from by repeat (first | (with_reducible first | exact HI0.out | apply IsS105.alloc | apply IsS105.drewN | apply IsS105.drew | apply IsS105.set_1 | apply IsS105.set_2 | refine IsS105.far ?_ NB0_338.out _ | refine IsS105.far ?_ NB0_351.out _) | exact HI0.out)) (g1 HO341.out) (by decide)) hk (fun _ h => h.2)) (fun _ h => h.1)) (Kd.R_mono (Kd.R_keep (IsS105.apart (show IsS105 w0 _ g s0_0 t353 t354 from by repeat (first | (with_reducible first | exact HI0.out | apply IsS105.alloc | apply IsS105.drewN | apply IsS105.drew | apply IsS105.set_1 | apply IsS105.set_2 | refine IsS105.far ?_ NB0_338.out _ | refine IsS105.far ?_ NB0_351.out _) | exact HI0.out)) (g1 HO344.out) (by decide)) hk (fun _ h => h.2)) (fun _ h => h.1)) (Kd.S_mono (Kd.S_told (Kd.S_oldK (IsS105.apartS (show IsS105 w0 _ g s0_0 t353 t354 from by repeat (first | (with_reducible first | exact HI0.out | apply IsS105.alloc | apply IsS105.drewN | apply IsS105.drew | apply IsS105.set_1 | apply IsS105.set_2 | refine IsS105.far ?_ NB0_338.out _ | refine IsS105.far ?_ NB0_351.out _) | exact HI0.out)) (g25 HO348.out) (by decide)) hk) (Kd.R_base ho0)) (fun _ h_ => h_.1)) (KeepBut.blk hk (g' := gb351) (o := .cells #[.slice Ao8 t339.length co8, .slice Ao12 t342.length co12, .int .i64 t345, .slice Ao13 t346.length co13] 46 (0, 0)) (g2 BK351.out) NB351_0.out (by simp)) (Kd.R_lower ho0 (keep_size (w := w) (g := g) (row := none) (g44 HK.out GW338.out GW351.out))) (KeepBut.trans (g44 HK.out GW338.out GW351.out) hk (.inl rfl)) hb hi
  clear BK338 HO341 HO344 HO348 BK351 HK HB HI0
  obtain ⟨BK338, HO341, HO344, HO348, BK351, HO373, HK, HB, HI0⟩ := n_
  (try clear hb)
  (try clear hb2)
  (try clear hk)
  (try clear hi)
  (try clear ho0)
  obtain ⟨Ao58, co58, eo58⟩ := Kd.R_slice HO373.out
  (first | subst eo58 | (injection eo58 with f1_ f2_ f3_; have f4_ := f1_.symm; have f5_ := f3_.symm; clear f1_ f2_ f3_; subst f4_; subst f5_))
  refine hK.out _ _ ⟨(blk_cell BK351.out 0).trans rfl, (blk_cell BK351.out 1).trans rfl, (blk_cell BK351.out 2).trans rfl, (blk_cell BK351.out 3).trans rfl⟩ (fun hHeld => ?_)
  clear hK K
  refine norm_ (a' := ?_) ?_ ?_
  rotate_left
  ·show Act.put _ (some 34) _ = _
   simp only [Act.put, List.setIfInBounds_toArray, List.set_cons_zero, List.set_cons_succ, i64_w, i32_w]
   rfl
  refine one_ (i := 4) (N := some 35) #[true, true, true, true, true, false, false, false] rfl rfl (one_of HT_.out (by kernel_rfl)) (by decide) (fun K hK => ?_)
  refine value_ (w1 := ?_) (v := ?_) (by rfl) rfl ?_ ?_
  rotate_left 2
  ·go_simp
   constructor
   ·rfl
   ·rfl
  refine hK.out _ _ ⟨(blk_cell (blk_alloc BK351.out _) 0).trans rfl, (blk_cell (blk_alloc BK351.out _) 1).trans rfl, (blk_cell (blk_alloc BK351.out _) 2).trans rfl, (blk_cell (blk_alloc BK351.out _) 3).trans rfl⟩ (fun hHeld => ?_)
  clear hK K
  refine norm_ (a' := ?_) ?_ ?_
  rotate_left
  ·show Act.put _ (some 35) _ = _
   simp only [Act.put, List.setIfInBounds_toArray, List.set_cons_zero, List.set_cons_succ, i64_w, i32_w]
   rfl
  refine one_ (i := 5) (N := some 36) #[true, true, true, true, true, true, false, false] rfl rfl (one_of HT_.out (by kernel_rfl)) (by decide) (fun K hK => ?_)
  refine Kd.S_append_step k68 w.heap.size (by rfl) (.tmp 32) (.tmp 35) 44 68 (.agg #[(.slice none 0 0)]) 24 rfl Try.underlying44 info68 rfl (by decide) (by omega) (.slice Ao13 t346.length co13) t346 (⟨t371⟩ : S68) [.slice Ao58 t371.length co58] (fun _ => True) (fun k_ => some k_ = (.slice Ao58 t371.length co58 : Value).ownBlock) rfl rfl ?aP (fun k_ hk_ => ((Kd.R_mono (ok' := fun k_ => ((fun _ => True)) k_ ∧ some k_ ≠ (.slice Ao13 t346.length co13 : Value).ownBlock) (Kd.R_apart' (HO373.out) (Kd.S_typed HO348.out) (by decide)) (fun k_ hk => ⟨trivial, hk.2⟩))).1 k_ hk_.symm) ?aF ?aO (Below.refl _ _) ?aS ?aL ?_
  (case aP => exact k68_mkM _ _ _ (⟨t371⟩ : S68) (Kd.R_mono (Kd.R_tight rfl (Kd.R_mono (ok' := fun k_ => ((fun _ => True)) k_ ∧ some k_ ≠ (.slice Ao13 t346.length co13 : Value).ownBlock) (Kd.R_apart' (HO373.out) (Kd.S_typed HO348.out) (by decide)) (fun k_ hk => ⟨trivial, hk.2⟩))) (fun _ h_ => h_)))
  (case aF => exact (fun _ _ => trivial))
  (case aO => exact (by (with_reducible repeat (first | apply Kd.S_alloc | apply Kd.S_drewN | apply Kd.S_drew)); exact Kd.S_mono HO348.out (fun k_ hk => ⟨trivial, fun e_ => hk.2 e_⟩)))
  (case aS => exact (keep_size (w := w) (g := g) (row := none) (g44 HK.out GW338.out GW351.out)))
  (case aL => have := LMc54.out; omega)
  intro v377 w57 ho hb hg hat
  rw [← Ny376.out] at ho
  have n_ := spec_l24Bent.K8_ (IsS105.grown (g42 HI0.out NB0_338.out NB0_351.out) hg (IsS105.own_neS HI0.out HO348.out (by decide))) (blk_grown (g := gb338) (o := .cells #[.slice none 0 0, .slice none 0 0, .int .i64 0, .slice none 0 0] 46 (0, 0)) (g2 BK338.out) hg (Kd.S_ne HO348.out BK338.out (by decide))) (Kd.R_over' (g1 HO341.out) (Kd.S_typed (g25 HO348.out)) (by decide) hg) (Kd.R_over' (g1 HO344.out) (Kd.S_typed (g25 HO348.out)) (by decide) hg) (blk_grown (g := gb351) (o := .cells #[.slice Ao8 t339.length co8, .slice Ao12 t342.length co12, .int .i64 t345, .slice Ao13 t346.length co13] 46 (0, 0)) (g2 BK351.out) hg (Kd.S_ne HO348.out BK351.out (by decide))) (below_weaken (g43 HB.out HI0.out GE338.out GE351.out) HL.out hb) (KeepBut.trans (g44 HK.out GW338.out GW351.out) (KeepBut.of_grown hg g) (Kd.S_base2 HO348.out)) ho
  clear HI0 BK338 HO341 HO344 BK351 HB HK HO348 HO373
  obtain ⟨HI0, BK338, HO341, HO344, BK351, HB, HK, HO378⟩ := n_
  clear ho hb hg hat
  obtain ⟨Ao59, co59, eo59⟩ := Kd.S_slice HO378.out
  (first | subst eo59 | (injection eo59 with f1_ f2_ f3_; have f4_ := f1_.symm; have f5_ := f3_.symm; clear f1_ f2_ f3_; subst f4_; subst f5_))
  refine hK.out _ _ ⟨(blk_cell BK351.out 0).trans rfl, (blk_cell BK351.out 1).trans rfl, (blk_cell BK351.out 2).trans rfl, (blk_cell BK351.out 3).trans rfl⟩ (fun hHeld => ?_)
  clear hK K
  refine norm_ (a' := ?_) ?_ ?_
  rotate_left
  ·show Act.put _ (some 36) _ = _
   simp only [Act.put, List.setIfInBounds_toArray, List.set_cons_zero, List.set_cons_succ, i64_w, i32_w]
   rfl
  refine pure_ (i := 6) (N := some 37) (v := ?_) (a' := ?_) #[true, true, true, true, true, true, true, false] rfl rfl (any_of HT_.out (by kernel_rfl)) (fun _ _ _ h => h) (Or.inl ⟨by rfl, ?_⟩) ?_ ?_
  rotate_left
  ·intro w'
   go_simp
   with_reducible rfl
  rotate_left
  ·exact ga0
  refine last_ (i := 7) (N := none) #[true, true, true, true, true, true, true, true] rfl rfl (one_of HT_.out (by kernel_rfl)) (by decide) (fun K hK => ?_)
  have hs60 : w57.cell? ⟨gb351, 3, none⟩ = some (.slice Ao13 t346.length co13) := (blk_cell BK351.out 3).trans rfl
  have hfs60 := blk_frozen BK351.out 3
  have hns60_0 := NB338_351.out
  have hms60_0 := NB351_338.out
  refine skip_ (w1 := ?_) (by rfl) rfl ?_ ?_
  rotate_left
  ·go_simp
   rfl
  refine hK.out _ _ ?_
  clear hK K
  refine done_ (done_of HT_.out (by kernel_rfl)) ?_
  have hnb61 := NB351_338.out
  have hnc61 := NB338_351.out
  have hnb62 := NB351_0.out
  have hnc62 := NB0_351.out
  have hcz63_0 : w57.cell? ⟨gb351, 0, none⟩ = some (.slice Ao8 t339.length co8) := (blk_cell BK351.out 0).trans rfl
  have hcz63_1 : w57.cell? ⟨gb351, 1, none⟩ = some (.slice Ao12 t342.length co12) := (blk_cell BK351.out 1).trans rfl
  have hcz63_2 : w57.cell? ⟨gb351, 2, none⟩ = some (.int .i64 t345) := (blk_cell BK351.out 2).trans rfl
  have hcz63_3 : w57.cell? ⟨gb351, 3, none⟩ = some (.slice Ao13 t346.length co13) := (blk_cell BK351.out 3).trans rfl
  have hfz63_0 := blk_frozen BK351.out 0
  have hfz63_1 := blk_frozen BK351.out 1
  have hfz63_2 := blk_frozen BK351.out 2
  have hfz63_3 := blk_frozen BK351.out 3
  have hnb64 := NB338_0.out
  have hnc64 := NB0_338.out
  have hcz65_0 : w57.cell? ⟨gb338, 0, none⟩ = some (.slice none 0 0) := (blk_cell BK338.out 0).trans rfl
  have hcz65_1 : w57.cell? ⟨gb338, 1, none⟩ = some (.slice none 0 0) := (blk_cell BK338.out 1).trans rfl
  have hcz65_2 : w57.cell? ⟨gb338, 2, none⟩ = some (.int .i64 0) := (blk_cell BK338.out 2).trans rfl
  have hcz65_3 : w57.cell? ⟨gb338, 3, none⟩ = some (.slice none 0 0) := (blk_cell BK338.out 3).trans rfl
  have hfz65_0 := blk_frozen BK338.out 0
  have hfz65_1 := blk_frozen BK338.out 1
  have hfz65_2 := blk_frozen BK338.out 2
  have hfz65_3 := blk_frozen BK338.out 3
  try go_wp2
  refine bodyPost_ret (results_cell_row rfl _ _ gb338 46 #[.slice Ao8 t339.length co8, .slice Ao12 t342.length co12, .int .i64 t345, .slice Ao59 y376.length co59] (0, 0) _ rfl (by (with_reducible repeat (first | refine blk_drewN ?_ _ | refine blk_drew ?_ | refine blk_alloc ?_ _)); refine blk_put (cs := #[.slice Ao8 t339.length co8, .slice Ao12 t342.length co12, .int .i64 t345, .slice none 0 0]) ?_ 3 _ rfl; (with_reducible repeat (first | refine blk_drewN ?_ _ | refine blk_drew ?_ | refine blk_alloc ?_ _)); refine blk_put (cs := #[.slice Ao8 t339.length co8, .slice Ao12 t342.length co12, .int .i64 0, .slice none 0 0]) ?_ 2 _ rfl; (with_reducible repeat (first | refine blk_drewN ?_ _ | refine blk_drew ?_ | refine blk_alloc ?_ _)); refine blk_put (cs := #[.slice Ao8 t339.length co8, .slice none 0 0, .int .i64 0, .slice none 0 0]) ?_ 1 _ rfl; (with_reducible repeat (first | refine blk_drewN ?_ _ | refine blk_drew ?_ | refine blk_alloc ?_ _)); refine blk_put (cs := #[.slice none 0 0, .slice none 0 0, .int .i64 0, .slice none 0 0]) ?_ 0 _ rfl; (with_reducible repeat (first | refine blk_drewN ?_ _ | refine blk_drew ?_ | refine blk_alloc ?_ _)); refine blk_far ?_ NB338_351.out _; (with_reducible repeat (first | refine blk_drewN ?_ _ | refine blk_drew ?_ | refine blk_alloc ?_ _)); exact BK338.out) Try.underlying46 rfl (by kernel_rfl)) rfl ?_
  exact ⟨_, _, _, g5, by (with_reducible repeat (first | apply Kd.R_alloc | apply Kd.R_drewN | apply Kd.R_drew)); exact Kd.R_mono (Kd.R_far (p := ⟨gb338, 3, none⟩) (Kd.R_far (p := ⟨gb338, 2, none⟩) (Kd.R_far (p := ⟨gb338, 1, none⟩) (Kd.R_far (p := ⟨gb338, 0, none⟩) (Kd.R_far (p := ⟨gb351, 3, none⟩) (Kd.R_types (Kd.R_types HO341.out BK351.out (by decide)) BK338.out (by decide)) (fun _ hk => hk.1.2) (.slice Ao59 y376.length co59)) (fun _ hk => hk.2) (.slice Ao8 t339.length co8)) (fun _ hk => hk.2) (.slice Ao12 t342.length co12)) (fun _ hk => hk.2) (.int .i64 t345)) (fun _ hk => hk.2) (.slice Ao59 y376.length co59)) (fun _ hk => trivial), by (with_reducible repeat (first | apply Kd.R_alloc | apply Kd.R_drewN | apply Kd.R_drew)); exact Kd.R_mono (Kd.R_far (p := ⟨gb338, 3, none⟩) (Kd.R_far (p := ⟨gb338, 2, none⟩) (Kd.R_far (p := ⟨gb338, 1, none⟩) (Kd.R_far (p := ⟨gb338, 0, none⟩) (Kd.R_far (p := ⟨gb351, 3, none⟩) (Kd.R_types (Kd.R_types HO344.out BK351.out (by decide)) BK338.out (by decide)) (fun _ hk => hk.1.2) (.slice Ao59 y376.length co59)) (fun _ hk => hk.2) (.slice Ao8 t339.length co8)) (fun _ hk => hk.2) (.slice Ao12 t342.length co12)) (fun _ hk => hk.2) (.int .i64 t345)) (fun _ hk => hk.2) (.slice Ao59 y376.length co59)) (fun _ hk => trivial), by (with_reducible repeat (first | apply Kd.S_alloc | apply Kd.S_drewN | apply Kd.S_drew)); exact Kd.S_mono (Kd.S_far (p := ⟨gb338, 3, none⟩) (Kd.S_far (p := ⟨gb338, 2, none⟩) (Kd.S_far (p := ⟨gb338, 1, none⟩) (Kd.S_far (p := ⟨gb338, 0, none⟩) (Kd.S_far (p := ⟨gb351, 3, none⟩) (Kd.S_types (Kd.S_types HO378.out BK351.out (by decide)) BK338.out (by decide)) (fun _ hk => hk.1.2) (.slice Ao59 y376.length co59)) (fun _ hk => hk.2) (.slice Ao8 t339.length co8)) (fun _ hk => hk.2) (.slice Ao12 t342.length co12)) (fun _ hk => hk.2) (.int .i64 t345)) (fun _ hk => hk.2) (.slice Ao59 y376.length co59)) (fun _ hk => trivial), g42 HI0.out NB0_338.out NB0_351.out, g43 HB.out HI0.out GE338.out GE351.out, g44 HK.out GW338.out GW351.out⟩
 rw [if_neg c52] at H
 have c52b0 : (t352 == 3) = false := beq_eq_false_iff_ne.mpr c52
 have c52b1 : (t352 != 3) = true := bne_iff_ne.mpr c52
 by_cases c66 : t352 = 4
 case neg =>
  rw [if_neg c66] at H
  have c66b0 : (t352 == 4) = false := beq_eq_false_iff_ne.mpr c66
  have c66b1 : (t352 != 4) = true := bne_iff_ne.mpr c66
  by_cases c86 : t352 = 5
  case neg =>
   rw [if_neg c86] at H
   have c86b0 : (t352 == 5) = false := beq_eq_false_iff_ne.mpr c86
   have c86b1 : (t352 != 5) = true := bne_iff_ne.mpr c86
   simp only [Option.some.injEq, Prod.mk.injEq] at H
   obtain ⟨rfl, rfl, rfl, rfl, rfl, rfl⟩ := H
   have hnb99 := NB351_338.out
   have hnc99 := NB338_351.out
   have hnb100 := NB351_0.out
   have hnc100 := NB0_351.out
   have hcz101_0 : w14.cell? ⟨gb351, 0, none⟩ = some (.slice Ao8 t339.length co8) := (blk_cell BK351.out 0).trans rfl
   have hcz101_1 : w14.cell? ⟨gb351, 1, none⟩ = some (.slice Ao12 t342.length co12) := (blk_cell BK351.out 1).trans rfl
   have hcz101_2 : w14.cell? ⟨gb351, 2, none⟩ = some (.int .i64 t345) := (blk_cell BK351.out 2).trans rfl
   have hcz101_3 : w14.cell? ⟨gb351, 3, none⟩ = some (.slice Ao13 t346.length co13) := (blk_cell BK351.out 3).trans rfl
   have hfz101_0 := blk_frozen BK351.out 0
   have hfz101_1 := blk_frozen BK351.out 1
   have hfz101_2 := blk_frozen BK351.out 2
   have hfz101_3 := blk_frozen BK351.out 3
   have hnb102 := NB338_0.out
   have hnc102 := NB0_338.out
   have hcz103_0 : w14.cell? ⟨gb338, 0, none⟩ = some (.slice none 0 0) := (blk_cell BK338.out 0).trans rfl
   have hcz103_1 : w14.cell? ⟨gb338, 1, none⟩ = some (.slice none 0 0) := (blk_cell BK338.out 1).trans rfl
   have hcz103_2 : w14.cell? ⟨gb338, 2, none⟩ = some (.int .i64 0) := (blk_cell BK338.out 2).trans rfl
   have hcz103_3 : w14.cell? ⟨gb338, 3, none⟩ = some (.slice none 0 0) := (blk_cell BK338.out 3).trans rfl
   have hfz103_0 := blk_frozen BK338.out 0
   have hfz103_1 := blk_frozen BK338.out 1
   have hfz103_2 := blk_frozen BK338.out 2
   have hfz103_3 := blk_frozen BK338.out 3
   go_wp2
   refine bodyPost_ret (results_cell_row rfl _ _ gb338 46 #[.slice Ao8 t339.length co8, .slice Ao12 t342.length co12, .int .i64 t345, .slice Ao13 t346.length co13] (0, 0) _ rfl spec_l24Bent.z0 Try.underlying46 rfl (by kernel_rfl)) rfl ?_
   exact ⟨_, _, _, g5, by (with_reducible repeat (first | apply Kd.R_alloc | apply Kd.R_drewN | apply Kd.R_drew)); exact Kd.R_mono (Kd.R_far (p := ⟨gb338, 3, none⟩) (Kd.R_far (p := ⟨gb338, 2, none⟩) (Kd.R_far (p := ⟨gb338, 1, none⟩) (Kd.R_far (p := ⟨gb338, 0, none⟩) (Kd.R_types HO341.out BK338.out (by decide)) (fun _ hk => hk.2) (.slice Ao8 t339.length co8)) (fun _ hk => hk.2) (.slice Ao12 t342.length co12)) (fun _ hk => hk.2) (.int .i64 t345)) (fun _ hk => hk.2) (.slice Ao13 t346.length co13)) (fun _ hk => trivial), by (with_reducible repeat (first | apply Kd.R_alloc | apply Kd.R_drewN | apply Kd.R_drew)); exact Kd.R_mono (Kd.R_far (p := ⟨gb338, 3, none⟩) (Kd.R_far (p := ⟨gb338, 2, none⟩) (Kd.R_far (p := ⟨gb338, 1, none⟩) (Kd.R_far (p := ⟨gb338, 0, none⟩) (Kd.R_types HO344.out BK338.out (by decide)) (fun _ hk => hk.2) (.slice Ao8 t339.length co8)) (fun _ hk => hk.2) (.slice Ao12 t342.length co12)) (fun _ hk => hk.2) (.int .i64 t345)) (fun _ hk => hk.2) (.slice Ao13 t346.length co13)) (fun _ hk => trivial), by (with_reducible repeat (first | apply Kd.S_alloc | apply Kd.S_drewN | apply Kd.S_drew)); exact Kd.S_mono (Kd.S_far (p := ⟨gb338, 3, none⟩) (Kd.S_far (p := ⟨gb338, 2, none⟩) (Kd.S_far (p := ⟨gb338, 1, none⟩) (Kd.S_far (p := ⟨gb338, 0, none⟩) (Kd.S_types HO348.out BK338.out (by decide)) (fun _ hk => hk.2) (.slice Ao8 t339.length co8)) (fun _ hk => hk.2) (.slice Ao12 t342.length co12)) (fun _ hk => hk.2) (.int .i64 t345)) (fun _ hk => hk.2) (.slice Ao13 t346.length co13)) (fun _ hk => trivial), g42 HI0.out NB0_338.out NB0_351.out, g43 HB.out HI0.out GE338.out GE351.out, g44 HK.out GW338.out GW351.out⟩
  rw [if_pos c86] at H
  have c86b0 : (t352 == 5) = true := beq_iff_eq.mpr c86
  have c86b1 : (t352 != 5) = false := bne_eq_false_iff_eq.mpr c86
  clear c86
  obtain ⟨y388, hy388⟩ : ∃ y_ : List ByteArray, y_ = (([(⟨#[100]⟩ : ByteArray), (⟨#[101]⟩ : ByteArray)] : List ByteArray)) := ⟨_, rfl⟩
  replace H : (if t339.length + y388.length < 8796093022208 then (some ((t339 ++ y388), t342, t345, t346, t353, t354)) else (none)) = some (r1, r2, r3, r4, r5, r6) := by first | (rw [hy388]; with_reducible exact H) | (have H2_ := (Option.bind_some _ _).symm.trans H; rw [hy388]; with_reducible exact H2_) | (have H2_ := (Option.bind_some _ _).symm.trans H; with_reducible exact H2_) | with_reducible exact H | (rw [hy388]; exact H) | exact H
  have Ny388 := Aside0.mk hy388
  clear hy388
  by_cases c87 : t339.length + y388.length < 8796093022208
  case neg =>
   rw [if_neg c87] at H
   exact absurd H (by simp)
  rw [if_pos c87] at H
  have LMc87 := Aside0.mk c87
  clear c87
  obtain ⟨y391, hy391⟩ : ∃ y_ : List ByteArray, y_ = (t339 ++ y388) := ⟨_, rfl⟩
  replace H : (some (y391, t342, t345, t346, t353, t354)) = some (r1, r2, r3, r4, r5, r6) := by first | (rw [hy391]; with_reducible exact H) | (have H2_ := (Option.bind_some _ _).symm.trans H; rw [hy391]; with_reducible exact H2_) | (have H2_ := (Option.bind_some _ _).symm.trans H; with_reducible exact H2_) | with_reducible exact H | (rw [hy391]; exact H) | exact H
  have Ny391 := Aside0.mk hy391
  clear hy391
  simp only [Option.some.injEq, Prod.mk.injEq] at H
  obtain ⟨rfl, rfl, rfl, rfl, rfl, rfl⟩ := H
  have hnb88 := NB351_338.out
  have hnc88 := NB338_351.out
  have hnb89 := NB351_0.out
  have hnc89 := NB0_351.out
  have hcz90_0 : w14.cell? ⟨gb351, 0, none⟩ = some (.slice Ao8 t339.length co8) := (blk_cell BK351.out 0).trans rfl
  have hcz90_1 : w14.cell? ⟨gb351, 1, none⟩ = some (.slice Ao12 t342.length co12) := (blk_cell BK351.out 1).trans rfl
  have hcz90_2 : w14.cell? ⟨gb351, 2, none⟩ = some (.int .i64 t345) := (blk_cell BK351.out 2).trans rfl
  have hcz90_3 : w14.cell? ⟨gb351, 3, none⟩ = some (.slice Ao13 t346.length co13) := (blk_cell BK351.out 3).trans rfl
  have hfz90_0 := blk_frozen BK351.out 0
  have hfz90_1 := blk_frozen BK351.out 1
  have hfz90_2 := blk_frozen BK351.out 2
  have hfz90_3 := blk_frozen BK351.out 3
  go_wp2_with (first | ((with_reducible refine gate_dst (N := 57) rfl ?_); refine Kd.R_lit Kd.string _ 9 ?hg (N := 57) ?hd (xs := ([(⟨#[100]⟩ : ByteArray), (⟨#[101]⟩ : ByteArray)] : List ByteArray)) (inner := [.string (⟨#[100]⟩ : ByteArray), .string (⟨#[101]⟩ : ByteArray)]) (ok := fun _ => True) (okp := fun _ => True) ?hr ?hp (fun _ hk => hk) trivial (Below.refl _ _) (Nat.le_refl _) (by simp) ?_; (case hd => rfl); (case hg => rfl); (case hr => exact g10); (case hp => exact (Reps.one (show Kd.M Kd.string _ _ _ (⟨#[100]⟩ : ByteArray) [.string (⟨#[100]⟩ : ByteArray)] from rfl) (Reps.one (show Kd.M Kd.string _ _ _ (⟨#[101]⟩ : ByteArray) [.string (⟨#[101]⟩ : ByteArray)] from rfl) (Reps.none _ _)))); intro v389 w91 ho92 hb hg_ hnew_; clear hg_ hnew_; (first | rw [← Ny388.out] at ho92 | (simp only [Int.reduceToNat] at ho92; rw [← Ny388.out] at ho92)); have n_ := spec_l24Bent.K9_ (Kd.R_elder' (g1 HO341.out) (Kd.R_base ho92) hb) (Kd.R_below (g1 HO344.out) hb) (Kd.S_below (g25 HO348.out) hb) (Kd.R_lower (Kd.R_new' ho92 (Kd.R_lt (g1 HO341.out))) (keep_size (w := w) (g := g) (row := none) (g44 HK.out GW338.out GW351.out))) (IsS105.below (g42 HI0.out NB0_338.out NB0_351.out) hb) (blk_below (g := gb338) (o := .cells #[.slice none 0 0, .slice none 0 0, .int .i64 0, .slice none 0 0] 46 (0, 0)) (g2 BK338.out) hb) (blk_below (g := gb351) (o := .cells #[.slice Ao8 t339.length co8, .slice Ao12 t342.length co12, .int .i64 t345, .slice Ao13 t346.length co13] 46 (0, 0)) (g2 BK351.out) hb) (KeepBut.trans (g44 HK.out GW338.out GW351.out) (KeepBut.of_below hb g none) (.inl rfl)) (below_step (g43 HB.out HI0.out GE338.out GE351.out) hb); clear HO341 HO344 HO348 HI0 BK338 BK351 HK HB; obtain ⟨HO341, HO344, HO348, HO390, HI0, BK338, BK351, HK, HB⟩ := n_; clear hb ho92; obtain ⟨Ao94, co94, eo94⟩ := Kd.R_slice HO390.out; subst eo94) | ((with_reducible refine gate_builtin (b := .append) (xs := #[.tmp 56, .tmp 57]) rfl ?_); at_builtin; refine Kd.R_append_rows Kd.string w.heap.size rfl (.tmp 56) (.tmp 57) 24 9 (.string ⟨#[]⟩) 16 rfl Try.underlying24 info9 rfl (by decide) (by omega) (.slice Ao8 t339.length co8) t339 y388 _ _ _ (fun k_ => some k_ ≠ (.slice Ao94 y388.length co94 : Value).ownBlock) (fun _ => False) rfl rfl ?aO ?aR (fun _ _ h => h) (fun _ h => h.elim) ?aF (Below.refl _ _) ?aS ?aL ?_; (case aR => exact g26 HO390.out); (case aF => exact (fun k_ hk => Kd.fresh' (Kd.R_lt (g1 HO390.out)) k_ hk)); (case aO => exact (by (with_reducible repeat (first | apply Kd.R_alloc | apply Kd.R_drewN | apply Kd.R_drew)); exact Kd.R_mono HO341.out (fun _ hk => hk.2))); (case aS => exact (keep_size (w := w) (g := g) (row := none) (g44 HK.out GW338.out GW351.out))); (case aL => have := LMc87.out; omega); intro v392 w93 ho hb hg hat; rw [← Ny391.out] at ho; have n_ := spec_l24Bent.K9_ (IsS105.grown (g42 HI0.out NB0_338.out NB0_351.out) hg (IsS105.own_ne HI0.out HO341.out (by decide))) (blk_grown (g := gb338) (o := .cells #[.slice none 0 0, .slice none 0 0, .int .i64 0, .slice none 0 0] 46 (0, 0)) (g2 BK338.out) hg (Kd.R_ne HO341.out BK338.out (by decide))) (Kd.R_over' (g1 HO344.out) (Kd.R_typed (g1 HO341.out)) (by decide) hg) (Kd.S_over' (g25 HO348.out) (Kd.R_typed (g1 HO341.out)) (by decide) hg) (blk_grown (g := gb351) (o := .cells #[.slice Ao8 t339.length co8, .slice Ao12 t342.length co12, .int .i64 t345, .slice Ao13 t346.length co13] 46 (0, 0)) (g2 BK351.out) hg (Kd.R_ne HO341.out BK351.out (by decide))) (Kd.R_after (ok := (fun _ => True)) (g1 HO390.out) hg hat) (below_weaken (g43 HB.out HI0.out GE338.out GE351.out) HL.out hb) (KeepBut.trans (g44 HK.out GW338.out GW351.out) (KeepBut.of_grown hg g) (Kd.R_base2 HO341.out)) ho; clear HI0 BK338 HO344 HO348 BK351 HO390 HB HK HO341; obtain ⟨HI0, BK338, HO344, HO348, BK351, HO390, HB, HK, HO393⟩ := n_; clear ho hb hg hat; obtain ⟨Ao95, co95, eo95⟩ := Kd.R_slice HO393.out; subst eo95; have hcz96_0 : w93.cell? ⟨gb351, 0, none⟩ = some (.slice Ao8 t339.length co8) := (blk_cell BK351.out 0).trans rfl; have hcz96_1 : w93.cell? ⟨gb351, 1, none⟩ = some (.slice Ao12 t342.length co12) := (blk_cell BK351.out 1).trans rfl; have hcz96_2 : w93.cell? ⟨gb351, 2, none⟩ = some (.int .i64 t345) := (blk_cell BK351.out 2).trans rfl; have hcz96_3 : w93.cell? ⟨gb351, 3, none⟩ = some (.slice Ao13 t346.length co13) := (blk_cell BK351.out 3).trans rfl; have hfz96_0 := blk_frozen BK351.out 0; have hfz96_1 := blk_frozen BK351.out 1; have hfz96_2 := blk_frozen BK351.out 2; have hfz96_3 := blk_frozen BK351.out 3; have hnb97 := NB338_0.out; have hnc97 := NB0_338.out; have hcz98_0 : w93.cell? ⟨gb338, 0, none⟩ = some (.slice none 0 0) := (blk_cell BK338.out 0).trans rfl; have hcz98_1 : w93.cell? ⟨gb338, 1, none⟩ = some (.slice none 0 0) := (blk_cell BK338.out 1).trans rfl; have hcz98_2 : w93.cell? ⟨gb338, 2, none⟩ = some (.int .i64 0) := (blk_cell BK338.out 2).trans rfl; have hcz98_3 : w93.cell? ⟨gb338, 3, none⟩ = some (.slice none 0 0) := (blk_cell BK338.out 3).trans rfl; have hfz98_0 := blk_frozen BK338.out 0; have hfz98_1 := blk_frozen BK338.out 1; have hfz98_2 := blk_frozen BK338.out 2; have hfz98_3 := blk_frozen BK338.out 3))
  refine bodyPost_ret (results_cell_row rfl _ _ gb338 46 #[.slice Ao95 y391.length co95, .slice Ao12 t342.length co12, .int .i64 t345, .slice Ao13 t346.length co13] (0, 0) _ rfl (by (with_reducible repeat (first | refine blk_drewN ?_ _ | refine blk_drew ?_ | refine blk_alloc ?_ _)); refine blk_put (cs := #[.slice Ao95 y391.length co95, .slice Ao12 t342.length co12, .int .i64 t345, .slice none 0 0]) ?_ 3 _ rfl; (with_reducible repeat (first | refine blk_drewN ?_ _ | refine blk_drew ?_ | refine blk_alloc ?_ _)); refine blk_put (cs := #[.slice Ao95 y391.length co95, .slice Ao12 t342.length co12, .int .i64 0, .slice none 0 0]) ?_ 2 _ rfl; (with_reducible repeat (first | refine blk_drewN ?_ _ | refine blk_drew ?_ | refine blk_alloc ?_ _)); refine blk_put (cs := #[.slice Ao95 y391.length co95, .slice none 0 0, .int .i64 0, .slice none 0 0]) ?_ 1 _ rfl; (with_reducible repeat (first | refine blk_drewN ?_ _ | refine blk_drew ?_ | refine blk_alloc ?_ _)); refine blk_put (cs := #[.slice none 0 0, .slice none 0 0, .int .i64 0, .slice none 0 0]) ?_ 0 _ rfl; (with_reducible repeat (first | refine blk_drewN ?_ _ | refine blk_drew ?_ | refine blk_alloc ?_ _)); refine blk_far ?_ NB338_351.out _; (with_reducible repeat (first | refine blk_drewN ?_ _ | refine blk_drew ?_ | refine blk_alloc ?_ _)); exact BK338.out) Try.underlying46 rfl (by kernel_rfl)) rfl ?_
  exact ⟨_, _, _, g5, by (with_reducible repeat (first | apply Kd.R_alloc | apply Kd.R_drewN | apply Kd.R_drew)); exact Kd.R_mono (Kd.R_far (p := ⟨gb338, 3, none⟩) (Kd.R_far (p := ⟨gb338, 2, none⟩) (Kd.R_far (p := ⟨gb338, 1, none⟩) (Kd.R_far (p := ⟨gb338, 0, none⟩) (Kd.R_far (p := ⟨gb351, 0, none⟩) (Kd.R_types (Kd.R_types HO393.out BK351.out (by decide)) BK338.out (by decide)) (fun _ hk => hk.1.2) (.slice Ao95 y391.length co95)) (fun _ hk => hk.2) (.slice Ao95 y391.length co95)) (fun _ hk => hk.2) (.slice Ao12 t342.length co12)) (fun _ hk => hk.2) (.int .i64 t345)) (fun _ hk => hk.2) (.slice Ao13 t346.length co13)) (fun _ hk => trivial), by (with_reducible repeat (first | apply Kd.R_alloc | apply Kd.R_drewN | apply Kd.R_drew)); exact Kd.R_mono (Kd.R_far (p := ⟨gb338, 3, none⟩) (Kd.R_far (p := ⟨gb338, 2, none⟩) (Kd.R_far (p := ⟨gb338, 1, none⟩) (Kd.R_far (p := ⟨gb338, 0, none⟩) (Kd.R_far (p := ⟨gb351, 0, none⟩) (Kd.R_types (Kd.R_types HO344.out BK351.out (by decide)) BK338.out (by decide)) (fun _ hk => hk.1.2) (.slice Ao95 y391.length co95)) (fun _ hk => hk.2) (.slice Ao95 y391.length co95)) (fun _ hk => hk.2) (.slice Ao12 t342.length co12)) (fun _ hk => hk.2) (.int .i64 t345)) (fun _ hk => hk.2) (.slice Ao13 t346.length co13)) (fun _ hk => trivial), by (with_reducible repeat (first | apply Kd.S_alloc | apply Kd.S_drewN | apply Kd.S_drew)); exact Kd.S_mono (Kd.S_far (p := ⟨gb338, 3, none⟩) (Kd.S_far (p := ⟨gb338, 2, none⟩) (Kd.S_far (p := ⟨gb338, 1, none⟩) (Kd.S_far (p := ⟨gb338, 0, none⟩) (Kd.S_far (p := ⟨gb351, 0, none⟩) (Kd.S_types (Kd.S_types HO348.out BK351.out (by decide)) BK338.out (by decide)) (fun _ hk => hk.1.2) (.slice Ao95 y391.length co95)) (fun _ hk => hk.2) (.slice Ao95 y391.length co95)) (fun _ hk => hk.2) (.slice Ao12 t342.length co12)) (fun _ hk => hk.2) (.int .i64 t345)) (fun _ hk => hk.2) (.slice Ao13 t346.length co13)) (fun _ hk => trivial), g42 HI0.out NB0_338.out NB0_351.out, g43 HB.out HI0.out GE338.out GE351.out, g44 HK.out GW338.out GW351.out⟩
 rw [if_pos c66] at H
 have c66b0 : (t352 == 4) = true := beq_iff_eq.mpr c66
 have c66b1 : (t352 != 4) = false := bne_eq_false_iff_eq.mpr c66
 clear c66
 have H' := Aside0.mk H
 clear H
 go_wp2
 go_loopg [] k (fun kq w' => ∃ (x1001_1 : Int) (x1002_1 : Int) (x352003_1 : List (S68)) (u352003 : Value), Aside0 (spec_l24Bent.l0 kq s0_0 x1001_1 x1002_1 t339 t342 t345 x352003_1 = some (r1, r2, r3, r4, r5, r6)) ∧ Aside0 (kq ≤ k) ∧ Aside0 (Kd.R Kd.string 9 w' w.heap.size (fun _ => True) (.slice Ao8 t339.length co8) t339) ∧ Aside0 (Kd.R (Kd.int .i64) 3 w' w.heap.size (fun _ => True) (.slice Ao12 t342.length co12) t342) ∧ Aside0 (Kd.S k68 68 w' w.heap.size (fun _ => True) u352003 x352003_1) ∧ Aside0 (w'.heap[gb338]? = some (.cells #[(.slice none 0 0), (.slice none 0 0), .int .i64 0, (.slice none 0 0)] 46 (0, 0))) ∧ Aside0 (w'.heap[gb351]? = some (.cells #[(.slice Ao8 t339.length co8), (.slice Ao12 t342.length co12), .int .i64 t345, u352003] 46 (0, 0))) ∧ Aside0 (IsS105 w0 w' g s0_0 x1001_1 x1002_1) ∧ Aside0 (KeepBut w w' g none) ∧ Aside0 (Below w0.heap.size w0 w'))
 case atStart => exact ⟨(t353), (t354), (t346), (.slice Ao13 t346.length co13), H', ⟨Nat.le_refl _⟩, ⟨g1 HO341.out⟩, ⟨g1 HO344.out⟩, ⟨g25 HO348.out⟩, ⟨g2 BK338.out⟩, ⟨g2 BK351.out⟩, ⟨g42 HI0.out NB0_338.out NB0_351.out⟩, ⟨g44 HK.out GW338.out GW351.out⟩, ⟨g43 HB.out HI0.out GE338.out GE351.out⟩⟩
 case round =>
  clear H'
  try clear c1
  try clear p1
  try clear q1
  try clear hx1
  try clear qi1
  try clear hf1
  try clear c2
  try clear p2
  try clear c3
  try clear c4
  try clear c5
  try clear c6
  try clear c8
  try clear c9
  try clear c10
  try clear c12
  try clear c15
  try clear c15b0
  try clear c15b1
  try clear c17
  try clear c17b0
  try clear c17b1
  try clear p18
  try clear q18
  try clear hx18
  try clear qi18
  try clear hf18
  try clear c26
  try clear c27
  try clear c29
  try clear c31
  try clear c31b0
  try clear c31b1
  try clear c32
  try clear c33
  try clear c34
  try clear c39
  try clear c41
  try clear c41b0
  try clear c41b1
  try clear c47
  try clear c48
  try clear c50
  try clear c52
  try clear c52b0
  try clear c52b1
  try clear c54
  try clear c61
  try clear c62
  try clear c64
  try clear c66
  try clear c66b0
  try clear c66b1
  try clear hcz11_0
  try clear hcz11_1
  try clear hcz11_2
  try clear hcz11_3
  try clear hcz28_0
  try clear hcz28_1
  try clear hcz28_2
  try clear hcz28_3
  try clear hcz30_0
  try clear hcz30_1
  try clear hcz30_2
  try clear hcz30_3
  try clear hcz35_0
  try clear hcz35_1
  try clear hcz35_2
  try clear hcz35_3
  try clear hcz38_0
  try clear hcz38_1
  try clear hcz38_2
  try clear hcz38_3
  try clear hcz40_0
  try clear hcz40_1
  try clear hcz40_2
  try clear hcz40_3
  try clear hcz49_0
  try clear hcz49_1
  try clear hcz49_2
  try clear hcz49_3
  try clear hcz51_0
  try clear hcz51_1
  try clear hcz51_2
  try clear hcz51_3
  try clear hcz63_0
  try clear hcz63_1
  try clear hcz63_2
  try clear hcz63_3
  try clear hcz65_0
  try clear hcz65_1
  try clear hcz65_2
  try clear hcz65_3
  try clear hfz11_0
  try clear hfz11_1
  try clear hfz11_2
  try clear hfz11_3
  try clear hfz28_0
  try clear hfz28_1
  try clear hfz28_2
  try clear hfz28_3
  try clear hfz30_0
  try clear hfz30_1
  try clear hfz30_2
  try clear hfz30_3
  try clear hfz35_0
  try clear hfz35_1
  try clear hfz35_2
  try clear hfz35_3
  try clear hfz38_0
  try clear hfz38_1
  try clear hfz38_2
  try clear hfz38_3
  try clear hfz40_0
  try clear hfz40_1
  try clear hfz40_2
  try clear hfz40_3
  try clear hfz49_0
  try clear hfz49_1
  try clear hfz49_2
  try clear hfz49_3
  try clear hfz51_0
  try clear hfz51_1
  try clear hfz51_2
  try clear hfz51_3
  try clear hfz63_0
  try clear hfz63_1
  try clear hfz63_2
  try clear hfz63_3
  try clear hfz65_0
  try clear hfz65_1
  try clear hfz65_2
  try clear hfz65_3
  try clear hx18_0
  try clear p18
  try clear q18
  obtain ⟨x1001_1, x1002_1, x352003_1, u352003, HA, HK1, HO_352000, HO_352001, HO_352003, BK338, BK351, HI0, HK, HB⟩ := hrel
  cases gk with
  | zero => exact absurd HA.out (by simp [spec_l24Bent.l0])
  | succ k1 =>
   have H := HA.out
   clear HA
   simp only [spec_l24Bent.l0] at H
   replace H := Option.bind_eq_some_iff.mp H
   obtain ⟨⟨t379, t380, t381⟩, A670, H⟩ := H
   replace H : (if (x352003_1.length : Int) < (wrap64 (8 + t379)) then ((spec_OneLeaf.f 1).bind fun t382 => (if x352003_1.length < 5864062014805 then (spec_l24Bent.l0 k1 s0_0 t380 t381 t339 t342 t345 (x352003_1 ++ [(⟨t382⟩ : S68)])) else (none))) else (some (t339, t342, t345, x352003_1, t380, t381))) = some (r1, r2, r3, r4, r5, r6) := H
   have A67 := Aside0.mk A670
   clear A670
   have HZ68 := Aside0.mk H
   clear H
   try go_wp2
   have n_ := spec_l24Bent.K8_ (Kd.R_drew HO_352000.out) (Kd.R_drew HO_352001.out) (Kd.S_drew HO_352003.out) (blk_drew BK338.out) (blk_drew BK351.out) (IsS105.drew HI0.out) (keep_drew HK.out) (below_drew1 HB.out)
   clear HO_352000 HO_352001 HO_352003 BK338 BK351 HI0 HK HB
   obtain ⟨HO_352000, HO_352001, HO_352003, BK338, BK351, HI0, HK, HB⟩ := n_
   obtain ⟨Ao70, co70, eo70⟩ := Kd.S_slice HO_352003.out
   (first | subst eo70 | (injection eo70 with f1_ f2_ f3_; have f4_ := f1_.symm; have f5_ := f3_.symm; clear f1_ f2_ f3_; subst f4_; subst f5_))
   refine start_ (n := 7) (S := fun w' => w'.cell? ⟨gb351, 0, none⟩ = some (.slice Ao8 t339.length co8) ∧ w'.cell? ⟨gb351, 1, none⟩ = some (.slice Ao12 t342.length co12) ∧ w'.cell? ⟨gb351, 2, none⟩ = some (.int .i64 t345) ∧ w'.cell? ⟨gb351, 3, none⟩ = some (.slice Ao70 x352003_1.length co70)) (ds := []) #[false, false, false, false, false, false, false] (by kernel_rfl) rfl rfl ⟨(blk_cell BK351.out 0).trans rfl, (blk_cell BK351.out 1).trans rfl, (blk_cell BK351.out 2).trans rfl, (blk_cell BK351.out 3).trans rfl⟩ (fun hHeld => ?_)
   generalize wr.drew = w69 at HO_352000 HO_352001 HO_352003 BK338 BK351 HI0 HK HB hHeld ⊢
   refine pure_ (i := 0) (N := some 40) (v := ?_) (a' := ?_) #[true, false, false, false, false, false, false] rfl rfl (by kernel_rfl) (fun _ _ _ h => h) (Or.inl ⟨by rfl, ?_⟩) ?_ ?_
   rotate_left
   ·intro w'
    go_simp
    with_reducible rfl
   rotate_left
   ·exact ga0
   refine pure_ (i := 3) (N := some 43) (v := ?_) (a' := ?_) #[true, false, false, true, false, false, false] rfl rfl (by kernel_rfl) (fun _ _ _ h => h) (Or.inl ⟨by rfl, ?_⟩) ?_ ?_
   rotate_left
   ·intro w'
    go_simp
    with_reducible rfl
   rotate_left
   ·exact ga0
   refine take_ (i := 1) (N := some 41) (v := ?_) (a' := ?_) #[true, true, false, true, false, false, false] rfl rfl (by kernel_rfl) (fun _ _ _ h => h) (Or.inl ⟨by rfl, ?_⟩) hHeld ?_ ?_
   rotate_left
   ·rintro w' ⟨s0, s1, s2, s3⟩
    go_simp
    with_reducible rfl
   rotate_left
   ·exact ga0
   refine pure_ (i := 2) (N := some 42) (v := ?_) (a' := ?_) #[true, true, true, true, false, false, false] rfl rfl (by kernel_rfl) (fun _ _ _ h => h) (Or.inl ⟨by rfl, ?_⟩) ?_ ?_
   rotate_left
   ·intro w'
    go_simp
    with_reducible rfl
   rotate_left
   ·exact ga0
   refine one_ (i := 4) (N := some 44) #[true, true, true, true, true, false, false] rfl rfl (by kernel_rfl) (by decide) (fun K hK => ?_)
   refine goes_ Try.func101 (by kernel_rfl) rfl #[.pointer (some ⟨g, 0, none⟩), .int .i64 2] (by rfl) rfl rfl (g9) ?_
   with_reducible refine (spec_l1Below.calls g s0_0 x1001_1 x1002_1 2 t379 t380 t381 w0 _ ?side1 ?side2 A67.out).mono ?_
   (case side1 => exact g42 HI0.out NB0_338.out NB0_351.out)
   (case side2 => exact g43 HB.out HI0.out GE338.out GE351.out)
   rintro e w71 ⟨rfl, hi, hb, hk⟩
   refine ⟨_, rfl, ?_⟩
   have n_ := spec_l24Bent.K8_ (Kd.R_mono (Kd.R_keep (IsS105.apart (show IsS105 w0 _ g s0_0 x1001_1 x1002_1 from by repeat (first | (with_reducible first | exact HI0.out | apply IsS105.alloc | apply IsS105.drewN | apply IsS105.drew | apply IsS105.set_1 | apply IsS105.set_2 | refine IsS105.far ?_ NB0_338.out _ | refine IsS105.far ?_ NB0_351.out _) | exact HI0.out)) (g1 HO_352000.out) (by decide)) hk (fun _ h => h.2)) (fun _ h => h.1)) (Kd.R_mono (Kd.R_keep (IsS105.apart (show IsS105 w0 _ g s0_0 x1001_1 x1002_1 from by repeat (first | (with_reducible first | exact HI0.out | apply IsS105.alloc | apply IsS105.drewN | apply IsS105.drew | apply IsS105.set_1 | apply IsS105.set_2 | refine IsS105.far ?_ NB0_338.out _ | refine IsS105.far ?_ NB0_351.out _) | exact HI0.out)) (g1 HO_352001.out) (by decide)) hk (fun _ h => h.2)) (fun _ h => h.1)) (Kd.S_mono (Kd.S_keep (IsS105.apartS (show IsS105 w0 _ g s0_0 x1001_1 x1002_1 from by repeat (first | (with_reducible first | exact HI0.out | apply IsS105.alloc | apply IsS105.drewN | apply IsS105.drew | apply IsS105.set_1 | apply IsS105.set_2 | refine IsS105.far ?_ NB0_338.out _ | refine IsS105.far ?_ NB0_351.out _) | exact HI0.out)) (g25 HO_352003.out) (by decide)) hk (fun _ h => h.2)) (fun _ h => h.1)) (KeepBut.blk hk (g' := gb338) (o := .cells #[.slice none 0 0, .slice none 0 0, .int .i64 0, .slice none 0 0] 46 (0, 0)) (g2 BK338.out) NB338_0.out (by simp)) (KeepBut.blk hk (g' := gb351) (o := .cells #[.slice Ao8 t339.length co8, .slice Ao12 t342.length co12, .int .i64 t345, .slice Ao70 x352003_1.length co70] 46 (0, 0)) (g2 BK351.out) NB351_0.out (by simp)) (KeepBut.trans (g44 HK.out GW338.out GW351.out) hk (.inl rfl)) hb hi
   clear HO_352000 HO_352001 HO_352003 BK338 BK351 HK HB HI0
   obtain ⟨HO_352000, HO_352001, HO_352003, BK338, BK351, HK, HB, HI0⟩ := n_
   (try clear hb)
   (try clear hb2)
   (try clear hk)
   (try clear hi)
   refine hK.out _ _ ⟨(blk_cell BK351.out 0).trans rfl, (blk_cell BK351.out 1).trans rfl, (blk_cell BK351.out 2).trans rfl, (blk_cell BK351.out 3).trans rfl⟩ (fun hHeld => ?_)
   clear hK K
   refine norm_ (a' := ?_) ?_ ?_
   rotate_left
   ·show Act.put _ (some 44) _ = _
    simp only [Act.put, List.setIfInBounds_toArray, List.set_cons_zero, List.set_cons_succ, i64_w, i32_w]
    rfl
   refine pure_ (i := 5) (N := some 45) (v := ?_) (a' := ?_) #[true, true, true, true, true, true, false] rfl rfl (by kernel_rfl) (fun _ _ _ h => h) (Or.inl ⟨by rfl, ?_⟩) ?_ ?_
   rotate_left
   ·intro w'
    go_simp
    with_reducible rfl
   rotate_left
   ·exact ga0
   refine pure_ (i := 6) (N := some 46) (v := ?_) (a' := ?_) #[true, true, true, true, true, true, true] rfl rfl (by kernel_rfl) (fun _ _ _ h => h) (Or.inl ⟨by rfl, ?_⟩) ?_ ?_
   rotate_left
   ·intro w'
    go_simp
    with_reducible rfl
   rotate_left
   ·exact ga0
   refine done_ (by kernel_rfl) ?_
   go_upto_if 46 with (fail)
   have H := HZ68.out
   clear HZ68
   by_cases c72 : (x352003_1.length : Int) < (wrap64 (8 + t379))
   case neg =>
    rw [if_neg c72] at H
    have c72b0 : decide ((x352003_1.length : Int) < (wrap64 (8 + t379))) = false := decide_eq_false c72
    clear c72
    (first | rw [c72b0] | (simp only [i64_w, i32_w]; rw [c72b0]) | skip)
    simp only [Option.some.injEq, Prod.mk.injEq] at H
    obtain ⟨rfl, rfl, rfl, rfl, rfl, rfl⟩ := H
    have hnb81 := NB351_338.out
    have hnc81 := NB338_351.out
    have hnb82 := NB351_0.out
    have hnc82 := NB0_351.out
    have hcz83_0 : w71.cell? ⟨gb351, 0, none⟩ = some (.slice Ao8 t339.length co8) := (blk_cell BK351.out 0).trans rfl
    have hcz83_1 : w71.cell? ⟨gb351, 1, none⟩ = some (.slice Ao12 t342.length co12) := (blk_cell BK351.out 1).trans rfl
    have hcz83_2 : w71.cell? ⟨gb351, 2, none⟩ = some (.int .i64 t345) := (blk_cell BK351.out 2).trans rfl
    have hcz83_3 : w71.cell? ⟨gb351, 3, none⟩ = some (.slice Ao70 x352003_1.length co70) := (blk_cell BK351.out 3).trans rfl
    have hfz83_0 := blk_frozen BK351.out 0
    have hfz83_1 := blk_frozen BK351.out 1
    have hfz83_2 := blk_frozen BK351.out 2
    have hfz83_3 := blk_frozen BK351.out 3
    have hnb84 := NB338_0.out
    have hnc84 := NB0_338.out
    have hcz85_0 : w71.cell? ⟨gb338, 0, none⟩ = some (.slice none 0 0) := (blk_cell BK338.out 0).trans rfl
    have hcz85_1 : w71.cell? ⟨gb338, 1, none⟩ = some (.slice none 0 0) := (blk_cell BK338.out 1).trans rfl
    have hcz85_2 : w71.cell? ⟨gb338, 2, none⟩ = some (.int .i64 0) := (blk_cell BK338.out 2).trans rfl
    have hcz85_3 : w71.cell? ⟨gb338, 3, none⟩ = some (.slice none 0 0) := (blk_cell BK338.out 3).trans rfl
    have hfz85_0 := blk_frozen BK338.out 0
    have hfz85_1 := blk_frozen BK338.out 1
    have hfz85_2 := blk_frozen BK338.out 2
    have hfz85_3 := blk_frozen BK338.out 3
    go_wp2
    refine bodyPost_ret (results_cell_row rfl _ _ gb338 46 #[.slice Ao8 t339.length co8, .slice Ao12 t342.length co12, .int .i64 t345, .slice Ao70 x352003_1.length co70] (0, 0) _ rfl spec_l24Bent.z0 Try.underlying46 rfl (by kernel_rfl)) rfl ?_
    exact ⟨_, _, _, g5, by (with_reducible repeat (first | apply Kd.R_alloc | apply Kd.R_drewN | apply Kd.R_drew)); exact Kd.R_mono (Kd.R_far (p := ⟨gb338, 3, none⟩) (Kd.R_far (p := ⟨gb338, 2, none⟩) (Kd.R_far (p := ⟨gb338, 1, none⟩) (Kd.R_far (p := ⟨gb338, 0, none⟩) (Kd.R_types HO_352000.out BK338.out (by decide)) (fun _ hk => hk.2) (.slice Ao8 t339.length co8)) (fun _ hk => hk.2) (.slice Ao12 t342.length co12)) (fun _ hk => hk.2) (.int .i64 t345)) (fun _ hk => hk.2) (.slice Ao70 x352003_1.length co70)) (fun _ hk => trivial), by (with_reducible repeat (first | apply Kd.R_alloc | apply Kd.R_drewN | apply Kd.R_drew)); exact Kd.R_mono (Kd.R_far (p := ⟨gb338, 3, none⟩) (Kd.R_far (p := ⟨gb338, 2, none⟩) (Kd.R_far (p := ⟨gb338, 1, none⟩) (Kd.R_far (p := ⟨gb338, 0, none⟩) (Kd.R_types HO_352001.out BK338.out (by decide)) (fun _ hk => hk.2) (.slice Ao8 t339.length co8)) (fun _ hk => hk.2) (.slice Ao12 t342.length co12)) (fun _ hk => hk.2) (.int .i64 t345)) (fun _ hk => hk.2) (.slice Ao70 x352003_1.length co70)) (fun _ hk => trivial), by (with_reducible repeat (first | apply Kd.S_alloc | apply Kd.S_drewN | apply Kd.S_drew)); exact Kd.S_mono (Kd.S_far (p := ⟨gb338, 3, none⟩) (Kd.S_far (p := ⟨gb338, 2, none⟩) (Kd.S_far (p := ⟨gb338, 1, none⟩) (Kd.S_far (p := ⟨gb338, 0, none⟩) (Kd.S_types HO_352003.out BK338.out (by decide)) (fun _ hk => hk.2) (.slice Ao8 t339.length co8)) (fun _ hk => hk.2) (.slice Ao12 t342.length co12)) (fun _ hk => hk.2) (.int .i64 t345)) (fun _ hk => hk.2) (.slice Ao70 x352003_1.length co70)) (fun _ hk => trivial), g42 HI0.out NB0_338.out NB0_351.out, g43 HB.out HI0.out GE338.out GE351.out, g44 HK.out GW338.out GW351.out⟩
   rw [if_pos c72] at H
   have c72b0 : decide ((x352003_1.length : Int) < (wrap64 (8 + t379))) = true := decide_eq_true c72
   clear c72
   (first | rw [c72b0] | (simp only [i64_w, i32_w]; rw [c72b0]) | skip)
   replace H := Option.bind_eq_some_iff.mp H
   obtain ⟨t382, A730, H⟩ := H
   replace H : (if x352003_1.length < 5864062014805 then (spec_l24Bent.l0 k1 s0_0 t380 t381 t339 t342 t345 (x352003_1 ++ [(⟨t382⟩ : S68)])) else (none)) = some (r1, r2, r3, r4, r5, r6) := H
   have A73 := Aside0.mk A730
   clear A730
   by_cases c74 : x352003_1.length < 5864062014805
   case neg =>
    rw [if_neg c74] at H
    exact absurd H (by simp)
   rw [if_pos c74] at H
   have LMc74 := Aside0.mk c74
   clear c74
   obtain ⟨y385, hy385⟩ : ∃ y_ : List (S68), y_ = (x352003_1 ++ [(⟨t382⟩ : S68)]) := ⟨_, rfl⟩
   replace H : (spec_l24Bent.l0 k1 s0_0 t380 t381 t339 t342 t345 y385) = some (r1, r2, r3, r4, r5, r6) := by first | (rw [hy385]; with_reducible exact H) | (have H2_ := (Option.bind_some _ _).symm.trans H; rw [hy385]; with_reducible exact H2_) | (have H2_ := (Option.bind_some _ _).symm.trans H; with_reducible exact H2_) | with_reducible exact H | (rw [hy385]; exact H) | exact H
   have Ny385 := Aside0.mk hy385
   clear hy385
   have H' := Aside0.mk H
   clear H
   try go_wp2
   have n_ := spec_l24Bent.K8_ (Kd.R_drew HO_352000.out) (Kd.R_drew HO_352001.out) (Kd.S_drew HO_352003.out) (blk_drew BK338.out) (blk_drew BK351.out) (IsS105.drew HI0.out) (keep_drew HK.out) (below_drew1 HB.out)
   clear HO_352000 HO_352001 HO_352003 BK338 BK351 HI0 HK HB
   obtain ⟨HO_352000, HO_352001, HO_352003, BK338, BK351, HI0, HK, HB⟩ := n_
   refine start_ (n := 7) (S := fun w' => w'.cell? ⟨gb351, 0, none⟩ = some (.slice Ao8 t339.length co8) ∧ w'.cell? ⟨gb351, 1, none⟩ = some (.slice Ao12 t342.length co12) ∧ w'.cell? ⟨gb351, 2, none⟩ = some (.int .i64 t345) ∧ w'.cell? ⟨gb351, 3, none⟩ = some (.slice Ao70 x352003_1.length co70)) (ds := [6]) #[false, false, false, false, false, false, false] (by kernel_rfl) rfl rfl ⟨(blk_cell BK351.out 0).trans rfl, (blk_cell BK351.out 1).trans rfl, (blk_cell BK351.out 2).trans rfl, (blk_cell BK351.out 3).trans rfl⟩ (fun hHeld => ?_)
   generalize w71.drew = w75 at HO_352000 HO_352001 HO_352003 BK338 BK351 HI0 HK HB hHeld ⊢
   refine pure_ (i := 0) (N := some 47) (v := ?_) (a' := ?_) #[true, false, false, false, false, false, false] rfl rfl (by kernel_rfl) (fun _ _ _ h => h) (Or.inl ⟨by rfl, ?_⟩) ?_ ?_
   rotate_left
   ·intro w'
    go_simp
    with_reducible rfl
   rotate_left
   ·exact ga0
   refine take_ (i := 1) (N := some 48) (v := ?_) (a' := ?_) #[true, true, false, false, false, false, false] rfl rfl (by kernel_rfl) (fun _ _ _ h => h) (Or.inl ⟨by rfl, ?_⟩) hHeld ?_ ?_
   rotate_left
   ·rintro w' ⟨s0, s1, s2, s3⟩
    go_simp
    with_reducible rfl
   rotate_left
   ·exact ga0
   refine one_ (i := 2) (N := some 49) #[true, true, true, false, false, false, false] rfl rfl (by kernel_rfl) (by decide) (fun K hK => ?_)
   refine goes_ Try.func122 (by kernel_rfl) rfl #[.int .i64 1] (by rfl) rfl rfl (g9) ?_
   with_reducible refine (spec_OneLeaf.calls 1 t382 _ A73.out).mono ?_
   rintro e w76 ⟨v383, rfl, ho0, hb⟩
   refine ⟨_, rfl, ?_⟩
   have n_ := spec_l24Bent.K9_ (Kd.R_below (g1 HO_352000.out) hb) (Kd.R_below (g1 HO_352001.out) hb) (Kd.S_elder' (g25 HO_352003.out) (Kd.R_base ho0) hb) (Kd.R_lower ho0 (keep_size (w := w) (g := g) (row := none) (g44 HK.out GW338.out GW351.out))) (blk_below (g := gb338) (o := .cells #[.slice none 0 0, .slice none 0 0, .int .i64 0, .slice none 0 0] 46 (0, 0)) (g2 BK338.out) hb) (blk_below (g := gb351) (o := .cells #[.slice Ao8 t339.length co8, .slice Ao12 t342.length co12, .int .i64 t345, .slice Ao70 x352003_1.length co70] 46 (0, 0)) (g2 BK351.out) hb) (IsS105.below (g42 HI0.out NB0_338.out NB0_351.out) hb) (KeepBut.trans (g44 HK.out GW338.out GW351.out) (KeepBut.of_below hb g none) (.inl rfl)) (below_step (g43 HB.out HI0.out GE338.out GE351.out) hb)
   clear HO_352000 HO_352001 HO_352003 BK338 BK351 HI0 HK HB
   obtain ⟨HO_352000, HO_352001, HO_352003, HO384, BK338, BK351, HI0, HK, HB⟩ := n_
   (try clear hb)
   (try clear hb2)
   (try clear hk)
   (try clear hi)
   (try clear ho0)
   obtain ⟨Ao78, co78, eo78⟩ := Kd.R_slice HO384.out
   (first | subst eo78 | (injection eo78 with f1_ f2_ f3_; have f4_ := f1_.symm; have f5_ := f3_.symm; clear f1_ f2_ f3_; subst f4_; subst f5_))
   refine hK.out _ _ ⟨(blk_cell BK351.out 0).trans rfl, (blk_cell BK351.out 1).trans rfl, (blk_cell BK351.out 2).trans rfl, (blk_cell BK351.out 3).trans rfl⟩ (fun hHeld => ?_)
   clear hK K
   refine norm_ (a' := ?_) ?_ ?_
   rotate_left
   ·show Act.put _ (some 49) _ = _
    simp only [Act.put, List.setIfInBounds_toArray, List.set_cons_zero, List.set_cons_succ, i64_w, i32_w]
    rfl
   refine one_ (i := 3) (N := some 50) #[true, true, true, true, false, false, false] rfl rfl (by kernel_rfl) (by decide) (fun K hK => ?_)
   refine value_ (w1 := ?_) (v := ?_) (by rfl) rfl ?_ ?_
   rotate_left 2
   ·go_simp
    constructor
    ·rfl
    ·rfl
   refine hK.out _ _ ⟨(blk_cell (blk_alloc BK351.out _) 0).trans rfl, (blk_cell (blk_alloc BK351.out _) 1).trans rfl, (blk_cell (blk_alloc BK351.out _) 2).trans rfl, (blk_cell (blk_alloc BK351.out _) 3).trans rfl⟩ (fun hHeld => ?_)
   clear hK K
   refine norm_ (a' := ?_) ?_ ?_
   rotate_left
   ·show Act.put _ (some 50) _ = _
    simp only [Act.put, List.setIfInBounds_toArray, List.set_cons_zero, List.set_cons_succ, i64_w, i32_w]
    rfl
   refine one_ (i := 4) (N := some 51) #[true, true, true, true, true, false, false] rfl rfl (by kernel_rfl) (by decide) (fun K hK => ?_)
   refine Kd.S_append_step k68 w.heap.size (by rfl) (.tmp 48) (.tmp 50) 44 68 (.agg #[(.slice none 0 0)]) 24 rfl Try.underlying44 info68 rfl (by decide) (by omega) (.slice Ao70 x352003_1.length co70) x352003_1 (⟨t382⟩ : S68) [.slice Ao78 t382.length co78] (fun _ => True) (fun k_ => some k_ = (.slice Ao78 t382.length co78 : Value).ownBlock) rfl rfl ?aP (fun k_ hk_ => ((Kd.R_mono (ok' := fun k_ => ((fun _ => True)) k_ ∧ some k_ ≠ (.slice Ao70 x352003_1.length co70 : Value).ownBlock) (Kd.R_apart' (HO384.out) (Kd.S_typed HO_352003.out) (by decide)) (fun k_ hk => ⟨trivial, hk.2⟩))).1 k_ hk_.symm) ?aF ?aO (Below.refl _ _) ?aS ?aL ?_
   (case aP => exact k68_mkM _ _ _ (⟨t382⟩ : S68) (Kd.R_mono (Kd.R_tight rfl (Kd.R_mono (ok' := fun k_ => ((fun _ => True)) k_ ∧ some k_ ≠ (.slice Ao70 x352003_1.length co70 : Value).ownBlock) (Kd.R_apart' (HO384.out) (Kd.S_typed HO_352003.out) (by decide)) (fun k_ hk => ⟨trivial, hk.2⟩))) (fun _ h_ => h_)))
   (case aF => exact (fun _ _ => trivial))
   (case aO => exact (by (with_reducible repeat (first | apply Kd.S_alloc | apply Kd.S_drewN | apply Kd.S_drew)); exact Kd.S_mono HO_352003.out (fun k_ hk => ⟨trivial, fun e_ => hk.2 e_⟩)))
   (case aS => exact (keep_size (w := w) (g := g) (row := none) (g44 HK.out GW338.out GW351.out)))
   (case aL => have := LMc74.out; omega)
   intro v386 w77 ho hb hg hat
   rw [← Ny385.out] at ho
   have n_ := spec_l24Bent.K8_ (Kd.R_over' (g1 HO_352000.out) (Kd.S_typed (g25 HO_352003.out)) (by decide) hg) (Kd.R_over' (g1 HO_352001.out) (Kd.S_typed (g25 HO_352003.out)) (by decide) hg) (blk_grown (g := gb338) (o := .cells #[.slice none 0 0, .slice none 0 0, .int .i64 0, .slice none 0 0] 46 (0, 0)) (g2 BK338.out) hg (Kd.S_ne HO_352003.out BK338.out (by decide))) (blk_grown (g := gb351) (o := .cells #[.slice Ao8 t339.length co8, .slice Ao12 t342.length co12, .int .i64 t345, .slice Ao70 x352003_1.length co70] 46 (0, 0)) (g2 BK351.out) hg (Kd.S_ne HO_352003.out BK351.out (by decide))) (IsS105.grown (g42 HI0.out NB0_338.out NB0_351.out) hg (IsS105.own_neS HI0.out HO_352003.out (by decide))) (below_weaken (g43 HB.out HI0.out GE338.out GE351.out) HL.out hb) (KeepBut.trans (g44 HK.out GW338.out GW351.out) (KeepBut.of_grown hg g) (Kd.S_base2 HO_352003.out)) ho
   clear HO_352000 HO_352001 BK338 BK351 HI0 HB HK HO_352003 HO384
   obtain ⟨HO_352000, HO_352001, BK338, BK351, HI0, HB, HK, HO387⟩ := n_
   clear ho hb hg hat
   obtain ⟨Ao79, co79, eo79⟩ := Kd.S_slice HO387.out
   (first | subst eo79 | (injection eo79 with f1_ f2_ f3_; have f4_ := f1_.symm; have f5_ := f3_.symm; clear f1_ f2_ f3_; subst f4_; subst f5_))
   refine hK.out _ _ ⟨(blk_cell BK351.out 0).trans rfl, (blk_cell BK351.out 1).trans rfl, (blk_cell BK351.out 2).trans rfl, (blk_cell BK351.out 3).trans rfl⟩ (fun hHeld => ?_)
   clear hK K
   refine norm_ (a' := ?_) ?_ ?_
   rotate_left
   ·show Act.put _ (some 51) _ = _
    simp only [Act.put, List.setIfInBounds_toArray, List.set_cons_zero, List.set_cons_succ, i64_w, i32_w]
    rfl
   refine pure_ (i := 5) (N := some 52) (v := ?_) (a' := ?_) #[true, true, true, true, true, true, false] rfl rfl (by kernel_rfl) (fun _ _ _ h => h) (Or.inl ⟨by rfl, ?_⟩) ?_ ?_
   rotate_left
   ·intro w'
    go_simp
    with_reducible rfl
   rotate_left
   ·exact ga0
   refine last_ (i := 6) (N := none) #[true, true, true, true, true, true, true] rfl rfl (by kernel_rfl) (by decide) (fun K hK => ?_)
   have hs80 : w77.cell? ⟨gb351, 3, none⟩ = some (.slice Ao70 x352003_1.length co70) := (blk_cell BK351.out 3).trans rfl
   have hfs80 := blk_frozen BK351.out 3
   have hns80_0 := NB338_351.out
   have hms80_0 := NB351_338.out
   refine skip_ (w1 := ?_) (by rfl) rfl ?_ ?_
   rotate_left
   ·go_simp
    rfl
   refine hK.out _ _ ?_
   clear hK K
   refine done_ (by kernel_rfl) ?_
   try go_wp2
   go_roundg k1
   case measure => have := HK1.out; omega
   case rel => exact ⟨(t380), (t381), (y385), (.slice Ao79 y385.length co79), H', ⟨by have := HK1.out; omega⟩, ⟨by (with_reducible repeat (first | apply Kd.R_alloc | apply Kd.R_drewN | apply Kd.R_drew)); exact Kd.R_mono (Kd.R_far (p := ⟨gb351, 3, none⟩) (Kd.R_types HO_352000.out BK351.out (by decide)) (fun _ hk => hk.2) (.slice Ao79 y385.length co79)) (fun _ hk => trivial)⟩, ⟨by (with_reducible repeat (first | apply Kd.R_alloc | apply Kd.R_drewN | apply Kd.R_drew)); exact Kd.R_mono (Kd.R_far (p := ⟨gb351, 3, none⟩) (Kd.R_types HO_352001.out BK351.out (by decide)) (fun _ hk => hk.2) (.slice Ao79 y385.length co79)) (fun _ hk => trivial)⟩, ⟨by (with_reducible repeat (first | apply Kd.S_alloc | apply Kd.S_drewN | apply Kd.S_drew)); exact Kd.S_mono (Kd.S_far (p := ⟨gb351, 3, none⟩) (Kd.S_types HO387.out BK351.out (by decide)) (fun _ hk => hk.2) (.slice Ao79 y385.length co79)) (fun _ hk => trivial)⟩, ⟨g22 NB338_351.out BK338.out⟩, ⟨by (with_reducible repeat (first | refine blk_drewN ?_ _ | refine blk_drew ?_ | refine blk_alloc ?_ _)); refine blk_put (cs := #[.slice Ao8 t339.length co8, .slice Ao12 t342.length co12, .int .i64 t345, .slice Ao70 x352003_1.length co70]) ?_ 3 _ rfl; (with_reducible repeat (first | refine blk_drewN ?_ _ | refine blk_drew ?_ | refine blk_alloc ?_ _)); exact BK351.out⟩, ⟨g42 HI0.out NB0_338.out NB0_351.out⟩, ⟨g44 HK.out GW338.out GW351.out⟩, ⟨g43 HB.out HI0.out GE338.out GE351.out⟩⟩
end Go.Proofs.Yteoikmbdpofhmaa.XFnUses
