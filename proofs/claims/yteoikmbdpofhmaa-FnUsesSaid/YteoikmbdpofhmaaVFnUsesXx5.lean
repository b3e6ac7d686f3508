import Derived.Test.YteoikmbdpofhmaaVFnUsesXx0
import Derived.Test.YteoikmbdpofhmaaVFnUsesXx2
import Derived.Test.YteoikmbdpofhmaaVFnUsesXx4
namespace Go.Proofs.Yteoikmbdpofhmaa.XFnUses
open Go.RowKit Go.Proofs.YteoikmbdpofhmaaW.PrintWords Go.Proofs.YteoikmbdpofhmaaW.PrintLast Go.Proofs.YteoikmbdpofhmaaW.PrintMore
attribute [local go_sem] max2_int min2_int max_two min_two max_three min_three max_four min_four
set_option linter.unusedVariables false
set_option linter.unusedSimpArgs false
def spec_l17Right.b0_ : Array Bool := #[true, true, true, true, true, true, true, true, true, true, true, true, true, true, true, true, true, true, false]
def spec_l17Right.b1_ : Array Bool := #[true, true, true, true, true, true, true, true, true, true, true, true, true, true, true, true, true, false, false]
def spec_l17Right.b2_ : Array Bool := #[true, true, true, true, true, true, true, true, true, true, true, true, true, true, true, true, false, true, false]
def spec_l17Right.b3_ : Array Bool := #[true, true, true, true, true, true, true, true, true, true, true, true, true, true, true, true, false, false, false]
def spec_l17Right.b4_ : Array Bool := #[true, true, true, true, true, true, true, true, true, true, true, true, true, true, false, false, false, true, false]
def spec_l17Right.b5_ : Array Bool := #[true, true, true, true, true, true, true, true, true, true, true, true, true, true, false, false, false, false, false]
def spec_l17Right.b6_ : Array Bool := #[true, true, true, true, true, true, true, true, true, true, true, false, false, true, false, false, false, true, false]
def spec_l17Right.b7_ : Array Bool := #[true, true, true, true, true, true, true, true, true, true, true, false, false, true, false, false, false, false, false]
def spec_l17Right.b8_ : Array Bool := #[true, true, true, true, true, true, false, false, false, false, true, false, false, true, false, false, false, true, false]
def spec_l17Right.b9_ : Array Bool := #[true, true, true, true, true, true, false, false, false, false, true, false, false, true, false, false, false, false, false]
def spec_l17Right.b10_ : Array Bool := #[true, true, true, true, false, true, false, false, false, false, true, false, false, true, false, false, false, true, false]
theorem spec_l17Right.z0 {p : Prop} (h : p := by rw [hg]; exact Nat.ne_of_lt (blk_lt (g := gb200) (o := .cells #[.slice none 0 0] 68 (0, 0)) (g2 BK200.out))) : p := h
theorem spec_l17Right.z1 {p : Prop} (h : p := by rw [hg]; exact Nat.ne_of_gt (blk_lt (g := gb200) (o := .cells #[.slice none 0 0] 68 (0, 0)) (g2 BK200.out))) : p := h
theorem spec_l17Right.z2 {p : Prop} (h : p := by rw [hg]; exact (keep_size (w := w) (g := g) (row := none) (g44 HK.out GW200.out GW207.out))) : p := h
theorem spec_l17Right.z3 {p : Prop} (h : p := by rw [hg]; exact Nat.ne_of_lt (blk_lt (g := gb207) (o := .cells #[.slice Ao30 x208000_1.length co30] 68 (0, 0)) (g2 BK207.out))) : p := h
theorem spec_l17Right.z4 {p : Prop} (h : p := by rw [hg]; exact Nat.ne_of_gt (blk_lt (g := gb207) (o := .cells #[.slice Ao30 x208000_1.length co30] 68 (0, 0)) (g2 BK207.out))) : p := h
theorem spec_l17Right.z5 {p : Prop} (h : p := by (with_reducible repeat (first | apply Kd.R_alloc | apply Kd.R_drewN | apply Kd.R_drew)); exact Kd.R_mono HO232.out (fun _ hk => hk.2)) : p := h
theorem spec_l17Right.z6 {p : Prop} (h : p := by (with_reducible repeat (first | apply Kd.R_alloc | apply Kd.R_drewN | apply Kd.R_drew)); exact Kd.R_mono HO_208000.out (fun _ hk => hk.2)) : p := h
theorem spec_l17Right.z7 {p : Prop} (h : p := by (with_reducible repeat (first | apply Kd.R_alloc | apply Kd.R_drewN | apply Kd.R_drew)); exact (Kd.R_mono (Kd.R_far (p := ⟨gb233, 0, none⟩) (Kd.R_types HO232.out BK233.out (by decide)) (fun _ hk => hk.2) (.slice Ao42 t230.length co42)) (fun _ h_ => h_.1))) : p := h
theorem spec_l17Right.K4_ {p0 p1 p2 p3 : Prop} (h0 : p0) (h1 : p1) (h2 : p2) (h3 : p3) : Aside0 p0 ∧ Aside0 p1 ∧ Aside0 p2 ∧ Aside0 p3 := ⟨⟨h0⟩, ⟨h1⟩, ⟨h2⟩, ⟨h3⟩⟩
theorem spec_l17Right.K5_ {p0 p1 p2 p3 p4 : Prop} (h0 : p0) (h1 : p1) (h2 : p2) (h3 : p3) (h4 : p4) : Aside0 p0 ∧ Aside0 p1 ∧ Aside0 p2 ∧ Aside0 p3 ∧ Aside0 p4 := ⟨⟨h0⟩, ⟨h1⟩, ⟨h2⟩, ⟨h3⟩, ⟨h4⟩⟩
theorem spec_l17Right.K6_ {p0 p1 p2 p3 p4 p5 : Prop} (h0 : p0) (h1 : p1) (h2 : p2) (h3 : p3) (h4 : p4) (h5 : p5) : Aside0 p0 ∧ Aside0 p1 ∧ Aside0 p2 ∧ Aside0 p3 ∧ Aside0 p4 ∧ Aside0 p5 := ⟨⟨h0⟩, ⟨h1⟩, ⟨h2⟩, ⟨h3⟩, ⟨h4⟩, ⟨h5⟩⟩
theorem spec_l17Right.K7_ {p0 p1 p2 p3 p4 p5 p6 : Prop} (h0 : p0) (h1 : p1) (h2 : p2) (h3 : p3) (h4 : p4) (h5 : p5) (h6 : p6) : Aside0 p0 ∧ Aside0 p1 ∧ Aside0 p2 ∧ Aside0 p3 ∧ Aside0 p4 ∧ Aside0 p5 ∧ Aside0 p6 := ⟨⟨h0⟩, ⟨h1⟩, ⟨h2⟩, ⟨h3⟩, ⟨h4⟩, ⟨h5⟩, ⟨h6⟩⟩
theorem spec_l17Right.K8_ {p0 p1 p2 p3 p4 p5 p6 p7 : Prop} (h0 : p0) (h1 : p1) (h2 : p2) (h3 : p3) (h4 : p4) (h5 : p5) (h6 : p6) (h7 : p7) : Aside0 p0 ∧ Aside0 p1 ∧ Aside0 p2 ∧ Aside0 p3 ∧ Aside0 p4 ∧ Aside0 p5 ∧ Aside0 p6 ∧ Aside0 p7 := ⟨⟨h0⟩, ⟨h1⟩, ⟨h2⟩, ⟨h3⟩, ⟨h4⟩, ⟨h5⟩, ⟨h6⟩, ⟨h7⟩⟩
theorem spec_l17Right.K9_ {p0 p1 p2 p3 p4 p5 p6 p7 p8 : Prop} (h0 : p0) (h1 : p1) (h2 : p2) (h3 : p3) (h4 : p4) (h5 : p5) (h6 : p6) (h7 : p7) (h8 : p8) : Aside0 p0 ∧ Aside0 p1 ∧ Aside0 p2 ∧ Aside0 p3 ∧ Aside0 p4 ∧ Aside0 p5 ∧ Aside0 p6 ∧ Aside0 p7 ∧ Aside0 p8 := ⟨⟨h0⟩, ⟨h1⟩, ⟨h2⟩, ⟨h3⟩, ⟨h4⟩, ⟨h5⟩, ⟨h6⟩, ⟨h7⟩, ⟨h8⟩⟩
theorem spec_l17Right.K12_ {p0 p1 p2 p3 p4 p5 p6 p7 p8 p9 p10 p11 : Prop} (h0 : p0) (h1 : p1) (h2 : p2) (h3 : p3) (h4 : p4) (h5 : p5) (h6 : p6) (h7 : p7) (h8 : p8) (h9 : p9) (h10 : p10) (h11 : p11) : Aside0 p0 ∧ Aside0 p1 ∧ Aside0 p2 ∧ Aside0 p3 ∧ Aside0 p4 ∧ Aside0 p5 ∧ Aside0 p6 ∧ Aside0 p7 ∧ Aside0 p8 ∧ Aside0 p9 ∧ Aside0 p10 ∧ Aside0 p11 := ⟨⟨h0⟩, ⟨h1⟩, ⟨h2⟩, ⟨h3⟩, ⟨h4⟩, ⟨h5⟩, ⟨h6⟩, ⟨h7⟩, ⟨h8⟩, ⟨h9⟩, ⟨h10⟩, ⟨h11⟩⟩
theorem spec_l17Right.K16_ {p0 p1 p2 p3 p4 p5 p6 p7 p8 p9 p10 p11 p12 p13 p14 p15 : Prop} (h0 : p0) (h1 : p1) (h2 : p2) (h3 : p3) (h4 : p4) (h5 : p5) (h6 : p6) (h7 : p7) (h8 : p8) (h9 : p9) (h10 : p10) (h11 : p11) (h12 : p12) (h13 : p13) (h14 : p14) (h15 : p15) : Aside0 p0 ∧ Aside0 p1 ∧ Aside0 p2 ∧ Aside0 p3 ∧ Aside0 p4 ∧ Aside0 p5 ∧ Aside0 p6 ∧ Aside0 p7 ∧ Aside0 p8 ∧ Aside0 p9 ∧ Aside0 p10 ∧ Aside0 p11 ∧ Aside0 p12 ∧ Aside0 p13 ∧ Aside0 p14 ∧ Aside0 p15 := ⟨⟨h0⟩, ⟨h1⟩, ⟨h2⟩, ⟨h3⟩, ⟨h4⟩, ⟨h5⟩, ⟨h6⟩, ⟨h7⟩, ⟨h8⟩, ⟨h9⟩, ⟨h10⟩, ⟨h11⟩, ⟨h12⟩, ⟨h13⟩, ⟨h14⟩, ⟨h15⟩⟩
def spec_l17Right.l0 : Nat → Int → Int → Int → List Int → Int → Int → List (S93) → Option ((List (S93)) × Int × Int)
  | 0, _, _, _, _, _, _, _ => none
  | k + 1, x1, x6, x7, x1000, x1001, x1002, x208000 => if x7 < x6 then ((spec_LeavesOf.f k x208000).bind fun t211 => ((spec_l1Below.f x1000 x1001 x1002 (t211.length : Int)).bind fun bt214 => (if 0 ≤ bt214.1 then (if bt214.1 < (t211.length : Int) then ((spec_l1Below.f x1000 bt214.2.1 bt214.2.2 x1).bind fun bt218 => ((spec_l1Below.f x1000 bt218.2.1 bt218.2.2 9).bind fun bt221 => ((spec_l1Below.f x1000 bt221.2.1 bt221.2.2 2001).bind fun bt224 => ((spec_l1Below.f x1000 bt224.2.1 bt224.2.2 2001).bind fun bt227 => ((spec_l17Grown.f k x208000 (rd t211 bt214.1) bt218.1 (wrap64 (500 * (wrap64 (bt221.1 - 4)))) 0 0 0 (wrap64 (bt224.1 - 1000)) (wrap64 (bt227.1 - 1000))).bind fun t230 => ((spec_TreeOk.f k t230 x1).bind fun t234 => (if t234 = true then (spec_l17Right.l0 k x1 x6 (wrap64 (x7 + 1)) x1000 bt227.2.1 bt227.2.2 t230) else (spec_l17Right.l0 k x1 x6 (wrap64 (x7 + 1)) x1000 bt227.2.1 bt227.2.2 x208000)))))))) else (none)) else (none)))) else (some (x208000, x1001, x1002))
def spec_l17Right.f (k : Nat) (s0_0 : List Int) (s0_1 : Int) (s0_2 : Int) (a1 : Int) : Option ((List (S93)) × Int × Int) := (spec_l1Below.f s0_0 s0_1 s0_2 21).bind fun bt201 => ((spec_OneLeaf.f (wrap64 (50 * (wrap64 (bt201.1 - 10))))).bind fun t204 => ((spec_l1Below.f s0_0 bt201.2.1 bt201.2.2 6).bind fun bt208 => (spec_l17Right.l0 k a1 bt208.1 0 s0_0 bt208.2.1 bt208.2.2 t204)))
def spec_l17Right.T8 : Bool × List (List Nat × List Nat) := (true, [([], []), ([], []), ([], []), ([], []), ([2, 3], [2, 3]), ([], []), ([5, 4], [5]), ([6], [6]), ([7], [7]), ([4, 8], [4, 8]), ([], []), ([10, 6], [10]), ([11], [11]), ([], []), ([13, 11], [13]), ([14], [14]), ([0, 1, 9, 12, 15, 14], [0, 1, 9, 12, 15]), ([], []), ([17, 16, 16, 0, 1, 2, 3, 4, 5, 6, 7, 8, 9, 10, 11, 12, 13, 14, 15, 16, 17], [16, 17])])
def spec_l17Right.B8 : List Nat := [0, 0, 0, 0, 12, 0, 60, 124, 252, 508, 0, 1148, 3196, 0, 11388, 27772, 65535, 0, 262143]
theorem spec_l17Right.tab8 : rtab .any (opsOf Try.f148 8) = spec_l17Right.T8 := by kernel_rfl
theorem spec_l17Right.bits8 : waitsOk spec_l17Right.T8.2 spec_l17Right.B8 = true := by kernel_rfl
set_option maxHeartbeats 8000000 in
set_option maxRecDepth 100000 in
theorem spec_l17Right.calls (k : Nat) (g : Nat) (s0_0 : List Int) (s0_1 : Int) (s0_2 : Int) (a1 : Int) (r1 : List (S93)) (r2 : Int) (r3 : Int) (w0 w : World) (hI : IsS105 w0 w g s0_0 s0_1 s0_2) (hB : Below w0.heap.size w0 w) (h : spec_l17Right.f k s0_0 s0_1 s0_2 a1 = some (r1, r2, r3)) :
    Calls Try.prog 148 #[.pointer (some ⟨g, 0, none⟩), .int .i64 a1] w fun e w' => ∃ v0_ : Value, e = .returned (.agg #[v0_]) ∧ Kd.R k93 93 w' w.heap.size (fun _ => True) v0_ r1 ∧ IsS105 w0 w' g s0_0 r2 r3 ∧ Below w0.heap.size w0 w' ∧ KeepBut w w' g none := by
 have hu68 := Try.underlying68
 have hu93 := Try.underlying93
 have HI0 := Aside0.mk hI
 have HK := Aside0.mk (KeepBut.refl w g none)
 have HL := Aside0.mk hB.size
 clear hI
 have HW0 := Aside0.mk hB.size
 have HB := Aside0.mk hB
 clear hB
 have H : ((spec_l1Below.f s0_0 s0_1 s0_2 21).bind fun bt201 => ((spec_OneLeaf.f (wrap64 (50 * (wrap64 (bt201.1 - 10))))).bind fun t204 => ((spec_l1Below.f s0_0 bt201.2.1 bt201.2.2 6).bind fun bt208 => (spec_l17Right.l0 k a1 bt208.1 0 s0_0 bt208.2.1 bt208.2.2 t204)))) = some (r1, r2, r3) := h
 clear h
 replace H := Option.bind_eq_some_iff.mp H
 obtain ⟨⟨t201, t202, t203⟩, A30, H⟩ := H
 replace H : ((spec_OneLeaf.f (wrap64 (50 * (wrap64 (t201 - 10))))).bind fun t204 => ((spec_l1Below.f s0_0 t202 t203 6).bind fun bt208 => (spec_l17Right.l0 k a1 bt208.1 0 s0_0 bt208.2.1 bt208.2.2 t204))) = some (r1, r2, r3) := H
 have A3 := Aside0.mk A30
 clear A30
 replace H := Option.bind_eq_some_iff.mp H
 obtain ⟨t204, A40, H⟩ := H
 replace H : ((spec_l1Below.f s0_0 t202 t203 6).bind fun bt208 => (spec_l17Right.l0 k a1 bt208.1 0 s0_0 bt208.2.1 bt208.2.2 t204)) = some (r1, r2, r3) := H
 have A4 := Aside0.mk A40
 clear A40
 replace H := Option.bind_eq_some_iff.mp H
 obtain ⟨⟨t208, t209, t210⟩, A50, H⟩ := H
 replace H : (spec_l17Right.l0 k a1 t208 0 s0_0 t209 t210 t204) = some (r1, r2, r3) := H
 have A5 := Aside0.mk A50
 clear A50
 have H' := Aside0.mk H
 clear H
 go_enter Try.func148, Try.ntmps148
 go_wp2_with (first | ((with_reducible refine gate_dst (N := 4) rfl ?_); refine box_event ?hg (N := 4) ?hd (cs := #[.slice none 0 0]) (t := 68) ?hr ?_; (case hd => rfl); (case hg => rfl); (case hr => exact g10); intro gb200 hg w6 hbox hb; have n_ := spec_l17Right.K8_ (IsS105.below (g29 HI0.out) hb) (KeepBut.trans (g31 HK.out) (KeepBut.of_below hb g none) (.inl rfl)) (below_step (g30 HB.out HI0.out) hb) hbox ((by rw [hg]; exact (keep_size (w := w) (g := g) (row := none) (g31 HK.out)) : w.heap.size ≤ gb200)) ((Nat.le_trans HW0.out (by rw [hg]; exact (keep_size (w := w) (g := g) (row := none) (g31 HK.out)) : w.heap.size ≤ gb200) : w0.heap.size ≤ gb200)) ((by rw [hg]; exact Nat.ne_of_lt (IsS105.lt (show IsS105 w0 _ g s0_0 s0_1 s0_2 from by repeat (first | (with_reducible first | exact HI0.out | apply IsS105.alloc | apply IsS105.drewN | apply IsS105.drew | apply IsS105.set_1 | apply IsS105.set_2) | exact HI0.out))) : g ≠ gb200)) ((by rw [hg]; exact Nat.ne_of_gt (IsS105.lt (show IsS105 w0 _ g s0_0 s0_1 s0_2 from by repeat (first | (with_reducible first | exact HI0.out | apply IsS105.alloc | apply IsS105.drewN | apply IsS105.drew | apply IsS105.set_1 | apply IsS105.set_2) | exact HI0.out))) : gb200 ≠ g)); clear HI0 HK HB; obtain ⟨HI0, HK, HB, BK200, GW200, GE200, NB0_200, NB200_0⟩ := n_; clear hb hbox hg) | ((with_reducible refine gate_callee (f := 101) rfl ?_); refine goesL_ (some 12) rfl rfl Try.func101 (by kernel_rfl) rfl #[.pointer (some ⟨g, 0, none⟩), .int .i64 21] rfl (g9) ?_; (with_reducible refine (spec_l1Below.calls g s0_0 s0_1 s0_2 21 t201 t202 t203 w0 _ ?side1 ?side2 A3.out).mono ?_); (case side1 => exact g39 HI0.out NB0_200.out); (case side2 => exact g40 HB.out HI0.out GE200.out); rintro e w7 ⟨rfl, hi, hb, hk⟩; refine ⟨_, rfl, ?_⟩; have n_ := spec_l17Right.K4_ (KeepBut.blk hk (g' := gb200) (o := .cells #[.slice none 0 0] 68 (0, 0)) (g2 BK200.out) NB200_0.out (by simp)) (KeepBut.trans (g41 HK.out GW200.out) hk (.inl rfl)) hb hi; clear BK200 HK HB HI0; obtain ⟨BK200, HK, HB, HI0⟩ := n_; (try clear hb); (try clear hb2); (try clear hk); (try clear hi)) | ((with_reducible refine gate_callee (f := 122) rfl ?_); refine goesL_ (some 15) rfl rfl Try.func122 (by kernel_rfl) rfl #[.int .i64 (wrap64 (50 * (wrap64 (t201 - 10))))] rfl (g9) ?_; (with_reducible refine (spec_OneLeaf.calls (wrap64 (50 * (wrap64 (t201 - 10)))) t204 _ A4.out).mono ?_); rintro e w8 ⟨v205, rfl, ho0, hb⟩; refine ⟨_, rfl, ?_⟩; have n_ := spec_l17Right.K5_ (Kd.R_lower ho0 (keep_size (w := w) (g := g) (row := none) (g41 HK.out GW200.out))) (IsS105.below (g39 HI0.out NB0_200.out) hb) (blk_below (g := gb200) (o := .cells #[.slice none 0 0] 68 (0, 0)) (g2 BK200.out) hb) (KeepBut.trans (g41 HK.out GW200.out) (KeepBut.of_below hb g none) (.inl rfl)) (below_step (g40 HB.out HI0.out GE200.out) hb); clear HI0 BK200 HK HB; obtain ⟨HO206, HI0, BK200, HK, HB⟩ := n_; (try clear hb); (try clear hb2); (try clear hk); (try clear hi); (try clear ho0)) | ((with_reducible refine gate_dst (N := 5) rfl ?_); refine box_event ?hg (N := 5) ?hd (cs := #[.slice none 0 0]) (t := 68) ?hr ?_; (case hd => rfl); (case hg => rfl); (case hr => exact g10); intro gb207 hg w9 hbox hb; have n_ := spec_l17Right.K12_ (Kd.R_below (g1 HO206.out) hb) (IsS105.below (g39 HI0.out NB0_200.out) hb) (blk_below (g := gb200) (o := .cells #[.slice none 0 0] 68 (0, 0)) (g2 BK200.out) hb) (KeepBut.trans (g41 HK.out GW200.out) (KeepBut.of_below hb g none) (.inl rfl)) (below_step (g40 HB.out HI0.out GE200.out) hb) hbox ((by rw [hg]; exact (keep_size (w := w) (g := g) (row := none) (g41 HK.out GW200.out)) : w.heap.size ≤ gb207)) ((Nat.le_trans HW0.out (by rw [hg]; exact (keep_size (w := w) (g := g) (row := none) (g41 HK.out GW200.out)) : w.heap.size ≤ gb207) : w0.heap.size ≤ gb207)) ((spec_l17Right.z0 : gb200 ≠ gb207)) ((spec_l17Right.z1 : gb207 ≠ gb200)) ((by rw [hg]; exact Nat.ne_of_lt (IsS105.lt (show IsS105 w0 _ g s0_0 t202 t203 from by repeat (first | (with_reducible first | exact HI0.out | apply IsS105.alloc | apply IsS105.drewN | apply IsS105.drew | apply IsS105.set_1 | apply IsS105.set_2 | refine IsS105.far ?_ NB0_200.out _) | exact HI0.out))) : g ≠ gb207)) ((by rw [hg]; exact Nat.ne_of_gt (IsS105.lt (show IsS105 w0 _ g s0_0 t202 t203 from by repeat (first | (with_reducible first | exact HI0.out | apply IsS105.alloc | apply IsS105.drewN | apply IsS105.drew | apply IsS105.set_1 | apply IsS105.set_2 | refine IsS105.far ?_ NB0_200.out _) | exact HI0.out))) : gb207 ≠ g)); clear HO206 HI0 BK200 HK HB; obtain ⟨HO206, HI0, BK200, HK, HB, BK207, GW207, GE207, NB200_207, NB207_200, NB0_207, NB207_0⟩ := n_; clear hb hbox hg; obtain ⟨Ao10, co10, eo10⟩ := Kd.R_slice HO206.out; subst eo10; have hnb11 := NB207_200.out; have hnc11 := NB200_207.out; have hnb12 := NB207_0.out; have hnc12 := NB0_207.out; have hcz13_0 : w9.cell? ⟨gb207, 0, none⟩ = some (.slice none 0 0) := (blk_cell BK207.out 0).trans rfl; have hfz13_0 := blk_frozen BK207.out 0) | ((with_reducible refine gate_callee (f := 101) rfl ?_); refine goesL_ (some 17) rfl rfl Try.func101 (by kernel_rfl) rfl #[.pointer (some ⟨g, 0, none⟩), .int .i64 6] rfl (g9) ?_; (with_reducible refine (spec_l1Below.calls g s0_0 t202 t203 6 t208 t209 t210 w0 _ ?side1 ?side2 A5.out).mono ?_); (case side1 => exact g42 HI0.out NB0_200.out NB0_207.out); (case side2 => exact g43 HB.out HI0.out GE200.out GE207.out); rintro e w14 ⟨rfl, hi, hb, hk⟩; refine ⟨_, rfl, ?_⟩; have n_ := spec_l17Right.K6_ (KeepBut.blk hk (g' := gb200) (o := .cells #[.slice none 0 0] 68 (0, 0)) (g22 NB200_207.out BK200.out) NB200_0.out (by simp)) (Kd.R_mono (Kd.R_keep (IsS105.apart (show IsS105 w0 _ g s0_0 t202 t203 from by repeat (first | (with_reducible first | exact HI0.out | apply IsS105.alloc | apply IsS105.drewN | apply IsS105.drew | apply IsS105.set_1 | apply IsS105.set_2 | refine IsS105.far ?_ NB0_200.out _ | refine IsS105.far ?_ NB0_207.out _) | exact HI0.out)) (by (with_reducible repeat (first | apply Kd.R_alloc | apply Kd.R_drewN | apply Kd.R_drew)); exact (Kd.R_mono (Kd.R_far (p := ⟨gb207, 0, none⟩) (Kd.R_types HO206.out BK207.out (by decide)) (fun _ hk => hk.2) (.slice Ao10 t204.length co10)) (fun _ h_ => h_.1))) (by decide)) hk (fun _ h => h.2)) (fun _ h => h.1)) (KeepBut.blk hk (g' := gb207) (o := .cells #[.slice Ao10 t204.length co10] 68 (0, 0)) (by (with_reducible repeat (first | refine blk_drewN ?_ _ | refine blk_drew ?_ | refine blk_alloc ?_ _)); refine blk_put (cs := #[.slice none 0 0]) ?_ 0 _ rfl; (with_reducible repeat (first | refine blk_drewN ?_ _ | refine blk_drew ?_ | refine blk_alloc ?_ _)); exact BK207.out) NB207_0.out (by simp)) (KeepBut.trans (g44 HK.out GW200.out GW207.out) hk (.inl rfl)) hb hi; clear BK200 HO206 BK207 HK HB HI0; obtain ⟨BK200, HO206, BK207, HK, HB, HI0⟩ := n_; (try clear hb); (try clear hb2); (try clear hk); (try clear hi)))
 go_loopg [7] k (fun kq v7 w' => ∃ (x7_1 : Int) (x1001_1 : Int) (x1002_1 : Int) (x208000_1 : List (S93)) (u208000 : Value), v7 = .int .i64 x7_1 ∧ Aside0 (spec_l17Right.l0 kq a1 t208 x7_1 s0_0 x1001_1 x1002_1 x208000_1 = some (r1, r2, r3)) ∧ Aside0 (kq ≤ k) ∧ Aside0 (Kd.R k93 93 w' w.heap.size (fun _ => True) u208000 x208000_1) ∧ Aside0 (w'.heap[gb200]? = some (.cells #[(.slice none 0 0)] 68 (0, 0))) ∧ Aside0 (w'.heap[gb207]? = some (.cells #[u208000] 68 (0, 0))) ∧ Aside0 (IsS105 w0 w' g s0_0 x1001_1 x1002_1) ∧ Aside0 (KeepBut w w' g none) ∧ Aside0 (Below w0.heap.size w0 w'))
 case atStart => exact ⟨(0), (t209), (t210), (t204), (.slice Ao10 t204.length co10), (g0), H', ⟨Nat.le_refl _⟩, ⟨g1 HO206.out⟩, ⟨g2 BK200.out⟩, ⟨g2 BK207.out⟩, ⟨g42 HI0.out NB0_200.out NB0_207.out⟩, ⟨g44 HK.out GW200.out GW207.out⟩, ⟨g43 HB.out HI0.out GE200.out GE207.out⟩⟩
 case round =>
  clear H'
  try clear c1
  try clear p2
  try clear p6
  try clear c10
  try clear c11
  try clear c12
  try clear c14
  try clear hcz13_0
  try clear hfz13_0
  obtain ⟨x7_1, x1001_1, x1002_1, x208000_1, u208000, rfl, HA, HK1, HO_208000, BK200, BK207, HI0, HK, HB⟩ := hrel
  cases gk with
  | zero => exact absurd HA.out (by simp [spec_l17Right.l0])
  | succ k1 =>
   have H := HA.out
   clear HA
   simp only [spec_l17Right.l0] at H
   by_cases c15 : x7_1 < t208
   case neg =>
    rw [if_neg c15] at H
    have c15b0 : decide (x7_1 < t208) = false := decide_eq_false c15
    clear c15
    simp only [Option.some.injEq, Prod.mk.injEq] at H
    obtain ⟨rfl, rfl, rfl⟩ := H
    have hnb57 := NB207_200.out
    have hnc57 := NB200_207.out
    have hnb58 := NB207_0.out
    have hnc58 := NB0_207.out
    have hcz59_0 : wr.cell? ⟨gb207, 0, none⟩ = some (u208000) := (blk_cell BK207.out 0).trans rfl
    have hfz59_0 := blk_frozen BK207.out 0
    obtain ⟨Ao60, co60, eo60⟩ := Kd.R_slice HO_208000.out
    subst eo60
    have hnb61 := NB200_0.out
    have hnc61 := NB0_200.out
    have hcz62_0 : wr.cell? ⟨gb200, 0, none⟩ = some (.slice none 0 0) := (blk_cell BK200.out 0).trans rfl
    have hfz62_0 := blk_frozen BK200.out 0
    go_wp2
    refine bodyPost_ret (results_cell_row rfl _ _ gb200 68 #[.slice Ao60 x208000_1.length co60] (0, 0) _ rfl (by (with_reducible repeat (first | refine blk_drewN ?_ _ | refine blk_drew ?_ | refine blk_alloc ?_ _)); refine blk_put (cs := #[.slice none 0 0]) ?_ 0 _ rfl; (with_reducible repeat (first | refine blk_drewN ?_ _ | refine blk_drew ?_ | refine blk_alloc ?_ _)); exact BK200.out) Try.underlying68 rfl (by kernel_rfl)) rfl ?_
    exact ⟨_, g5, by (with_reducible repeat (first | apply Kd.R_alloc | apply Kd.R_drewN | apply Kd.R_drew)); exact Kd.R_mono (Kd.R_far (p := ⟨gb200, 0, none⟩) (Kd.R_types HO_208000.out BK200.out (by decide)) (fun _ hk => hk.2) (.slice Ao60 x208000_1.length co60)) (fun _ hk => trivial), g42 HI0.out NB0_200.out NB0_207.out, g43 HB.out HI0.out GE200.out GE207.out, g44 HK.out GW200.out GW207.out⟩
   rw [if_pos c15] at H
   have c15b0 : decide (x7_1 < t208) = true := decide_eq_true c15
   clear c15
   replace H := Option.bind_eq_some_iff.mp H
   obtain ⟨t211, A160, H⟩ := H
   replace H : ((spec_l1Below.f s0_0 x1001_1 x1002_1 (t211.length : Int)).bind fun bt214 => (if 0 ≤ bt214.1 then (if bt214.1 < (t211.length : Int) then ((spec_l1Below.f s0_0 bt214.2.1 bt214.2.2 a1).bind fun bt218 => ((spec_l1Below.f s0_0 bt218.2.1 bt218.2.2 9).bind fun bt221 => ((spec_l1Below.f s0_0 bt221.2.1 bt221.2.2 2001).bind fun bt224 => ((spec_l1Below.f s0_0 bt224.2.1 bt224.2.2 2001).bind fun bt227 => ((spec_l17Grown.f k1 x208000_1 (rd t211 bt214.1) bt218.1 (wrap64 (500 * (wrap64 (bt221.1 - 4)))) 0 0 0 (wrap64 (bt224.1 - 1000)) (wrap64 (bt227.1 - 1000))).bind fun t230 => ((spec_TreeOk.f k1 t230 a1).bind fun t234 => (if t234 = true then (spec_l17Right.l0 k1 a1 t208 (wrap64 (x7_1 + 1)) s0_0 bt227.2.1 bt227.2.2 t230) else (spec_l17Right.l0 k1 a1 t208 (wrap64 (x7_1 + 1)) s0_0 bt227.2.1 bt227.2.2 x208000_1)))))))) else (none)) else (none))) = some (r1, r2, r3) := H
   have A16 := Aside0.mk A160
   clear A160
   replace H := Option.bind_eq_some_iff.mp H
   obtain ⟨⟨t214, t215, t216⟩, A170, H⟩ := H
   replace H : (if 0 ≤ t214 then (if t214 < (t211.length : Int) then ((spec_l1Below.f s0_0 t215 t216 a1).bind fun bt218 => ((spec_l1Below.f s0_0 bt218.2.1 bt218.2.2 9).bind fun bt221 => ((spec_l1Below.f s0_0 bt221.2.1 bt221.2.2 2001).bind fun bt224 => ((spec_l1Below.f s0_0 bt224.2.1 bt224.2.2 2001).bind fun bt227 => ((spec_l17Grown.f k1 x208000_1 (rd t211 t214) bt218.1 (wrap64 (500 * (wrap64 (bt221.1 - 4)))) 0 0 0 (wrap64 (bt224.1 - 1000)) (wrap64 (bt227.1 - 1000))).bind fun t230 => ((spec_TreeOk.f k1 t230 a1).bind fun t234 => (if t234 = true then (spec_l17Right.l0 k1 a1 t208 (wrap64 (x7_1 + 1)) s0_0 bt227.2.1 bt227.2.2 t230) else (spec_l17Right.l0 k1 a1 t208 (wrap64 (x7_1 + 1)) s0_0 bt227.2.1 bt227.2.2 x208000_1)))))))) else (none)) else (none)) = some (r1, r2, r3) := H
   have A17 := Aside0.mk A170
   clear A170
   by_cases c18 : 0 ≤ t214
   case neg =>
    rw [if_neg c18] at H
    exact absurd H (by simp)
   rw [if_pos c18] at H
   have c18b0 : decide (0 ≤ t214) = true := decide_eq_true c18
   clear c18
   by_cases c19 : t214 < (t211.length : Int)
   case neg =>
    rw [if_neg c19] at H
    exact absurd H (by simp)
   rw [if_pos c19] at H
   have c19b0 : decide (t214 < (t211.length : Int)) = true := decide_eq_true c19
   clear c19
   replace H := Option.bind_eq_some_iff.mp H
   obtain ⟨⟨t218, t219, t220⟩, A200, H⟩ := H
   replace H : ((spec_l1Below.f s0_0 t219 t220 9).bind fun bt221 => ((spec_l1Below.f s0_0 bt221.2.1 bt221.2.2 2001).bind fun bt224 => ((spec_l1Below.f s0_0 bt224.2.1 bt224.2.2 2001).bind fun bt227 => ((spec_l17Grown.f k1 x208000_1 (rd t211 t214) t218 (wrap64 (500 * (wrap64 (bt221.1 - 4)))) 0 0 0 (wrap64 (bt224.1 - 1000)) (wrap64 (bt227.1 - 1000))).bind fun t230 => ((spec_TreeOk.f k1 t230 a1).bind fun t234 => (if t234 = true then (spec_l17Right.l0 k1 a1 t208 (wrap64 (x7_1 + 1)) s0_0 bt227.2.1 bt227.2.2 t230) else (spec_l17Right.l0 k1 a1 t208 (wrap64 (x7_1 + 1)) s0_0 bt227.2.1 bt227.2.2 x208000_1))))))) = some (r1, r2, r3) := H
   have A20 := Aside0.mk A200
   clear A200
   replace H := Option.bind_eq_some_iff.mp H
   obtain ⟨⟨t221, t222, t223⟩, A210, H⟩ := H
   replace H : ((spec_l1Below.f s0_0 t222 t223 2001).bind fun bt224 => ((spec_l1Below.f s0_0 bt224.2.1 bt224.2.2 2001).bind fun bt227 => ((spec_l17Grown.f k1 x208000_1 (rd t211 t214) t218 (wrap64 (500 * (wrap64 (t221 - 4)))) 0 0 0 (wrap64 (bt224.1 - 1000)) (wrap64 (bt227.1 - 1000))).bind fun t230 => ((spec_TreeOk.f k1 t230 a1).bind fun t234 => (if t234 = true then (spec_l17Right.l0 k1 a1 t208 (wrap64 (x7_1 + 1)) s0_0 bt227.2.1 bt227.2.2 t230) else (spec_l17Right.l0 k1 a1 t208 (wrap64 (x7_1 + 1)) s0_0 bt227.2.1 bt227.2.2 x208000_1)))))) = some (r1, r2, r3) := H
   have A21 := Aside0.mk A210
   clear A210
   replace H := Option.bind_eq_some_iff.mp H
   obtain ⟨⟨t224, t225, t226⟩, A220, H⟩ := H
   replace H : ((spec_l1Below.f s0_0 t225 t226 2001).bind fun bt227 => ((spec_l17Grown.f k1 x208000_1 (rd t211 t214) t218 (wrap64 (500 * (wrap64 (t221 - 4)))) 0 0 0 (wrap64 (t224 - 1000)) (wrap64 (bt227.1 - 1000))).bind fun t230 => ((spec_TreeOk.f k1 t230 a1).bind fun t234 => (if t234 = true then (spec_l17Right.l0 k1 a1 t208 (wrap64 (x7_1 + 1)) s0_0 bt227.2.1 bt227.2.2 t230) else (spec_l17Right.l0 k1 a1 t208 (wrap64 (x7_1 + 1)) s0_0 bt227.2.1 bt227.2.2 x208000_1))))) = some (r1, r2, r3) := H
   have A22 := Aside0.mk A220
   clear A220
   replace H := Option.bind_eq_some_iff.mp H
   obtain ⟨⟨t227, t228, t229⟩, A230, H⟩ := H
   replace H : ((spec_l17Grown.f k1 x208000_1 (rd t211 t214) t218 (wrap64 (500 * (wrap64 (t221 - 4)))) 0 0 0 (wrap64 (t224 - 1000)) (wrap64 (t227 - 1000))).bind fun t230 => ((spec_TreeOk.f k1 t230 a1).bind fun t234 => (if t234 = true then (spec_l17Right.l0 k1 a1 t208 (wrap64 (x7_1 + 1)) s0_0 t228 t229 t230) else (spec_l17Right.l0 k1 a1 t208 (wrap64 (x7_1 + 1)) s0_0 t228 t229 x208000_1)))) = some (r1, r2, r3) := H
   have A23 := Aside0.mk A230
   clear A230
   replace H := Option.bind_eq_some_iff.mp H
   obtain ⟨t230, A240, H⟩ := H
   replace H : ((spec_TreeOk.f k1 t230 a1).bind fun t234 => (if t234 = true then (spec_l17Right.l0 k1 a1 t208 (wrap64 (x7_1 + 1)) s0_0 t228 t229 t230) else (spec_l17Right.l0 k1 a1 t208 (wrap64 (x7_1 + 1)) s0_0 t228 t229 x208000_1))) = some (r1, r2, r3) := H
   have A24 := Aside0.mk A240
   clear A240
   replace H := Option.bind_eq_some_iff.mp H
   obtain ⟨t234, A250, H⟩ := H
   replace H : (if t234 = true then (spec_l17Right.l0 k1 a1 t208 (wrap64 (x7_1 + 1)) s0_0 t228 t229 t230) else (spec_l17Right.l0 k1 a1 t208 (wrap64 (x7_1 + 1)) s0_0 t228 t229 x208000_1)) = some (r1, r2, r3) := H
   have A25 := Aside0.mk A250
   clear A250
   have HZ26 := Aside0.mk H
   clear H
   have hnb27 := NB207_200.out
   have hnc27 := NB200_207.out
   have hnb28 := NB207_0.out
   have hnc28 := NB0_207.out
   have hcz29_0 : wr.cell? ⟨gb207, 0, none⟩ = some (u208000) := (blk_cell BK207.out 0).trans rfl
   have hfz29_0 := blk_frozen BK207.out 0
   obtain ⟨Ao30, co30, eo30⟩ := Kd.R_slice HO_208000.out
   subst eo30
   try go_wp2_with (first | ((with_reducible refine gate_callee (f := 162) rfl ?_); refine goesL_ (some 24) rfl rfl Try.func162 (by kernel_rfl) rfl #[.agg #[.slice Ao30 x208000_1.length co30]] rfl (g9) ?_; (with_reducible refine (spec_LeavesOf.calls k1 _ _ x208000_1 t211 _ ?side1 ?side2 A16.out).mono ?_); (case side1 => exact g26 HO_208000.out); (case side2 => exact (Kd.R_reads' HO_208000.out).2.1); rintro e w31 ⟨v212, rfl, ho0, hb⟩; refine ⟨_, rfl, ?_⟩; have n_ := spec_l17Right.K7_ (Kd.R_below (g1 HO_208000.out) hb) (Kd.R_lower ho0 (keep_size (w := w) (g := g) (row := none) (g44 HK.out GW200.out GW207.out))) (blk_below (g := gb200) (o := .cells #[.slice none 0 0] 68 (0, 0)) (g2 BK200.out) hb) (blk_below (g := gb207) (o := .cells #[.slice Ao30 x208000_1.length co30] 68 (0, 0)) (g2 BK207.out) hb) (IsS105.below (g42 HI0.out NB0_200.out NB0_207.out) hb) (KeepBut.trans (g44 HK.out GW200.out GW207.out) (KeepBut.of_below hb g none) (.inl rfl)) (below_step (g43 HB.out HI0.out GE200.out GE207.out) hb); clear HO_208000 BK200 BK207 HI0 HK HB; obtain ⟨HO_208000, HO213, BK200, BK207, HI0, HK, HB⟩ := n_; (try clear hb); (try clear hb2); (try clear hk); (try clear hi); (try clear ho0); obtain ⟨Ao32, co32, eo32⟩ := Kd.R_slice HO213.out; subst eo32) | ((with_reducible refine gate_callee (f := 101) rfl ?_); refine goesL_ (some 29) rfl rfl Try.func101 (by kernel_rfl) rfl #[.pointer (some ⟨g, 0, none⟩), .int .i64 (t211.length : Int)] rfl (g9) ?_; (with_reducible refine (spec_l1Below.calls g s0_0 x1001_1 x1002_1 (t211.length : Int) t214 t215 t216 w0 _ ?side1 ?side2 A17.out).mono ?_); (case side1 => exact g42 HI0.out NB0_200.out NB0_207.out); (case side2 => exact g43 HB.out HI0.out GE200.out GE207.out); rintro e w33 ⟨rfl, hi, hb, hk⟩; refine ⟨_, rfl, ?_⟩; have n_ := spec_l17Right.K7_ (Kd.R_mono (Kd.R_keep (IsS105.apart (show IsS105 w0 _ g s0_0 x1001_1 x1002_1 from by repeat (first | (with_reducible first | exact HI0.out | apply IsS105.alloc | apply IsS105.drewN | apply IsS105.drew | apply IsS105.set_1 | apply IsS105.set_2 | refine IsS105.far ?_ NB0_200.out _ | refine IsS105.far ?_ NB0_207.out _) | exact HI0.out)) (g1 HO_208000.out) (by decide)) hk (fun _ h => h.2)) (fun _ h => h.1)) (KeepBut.blk hk (g' := gb200) (o := .cells #[.slice none 0 0] 68 (0, 0)) (g2 BK200.out) NB200_0.out (by simp)) (KeepBut.blk hk (g' := gb207) (o := .cells #[.slice Ao30 x208000_1.length co30] 68 (0, 0)) (g2 BK207.out) NB207_0.out (by simp)) (Kd.R_mono (Kd.R_keep (IsS105.apart (show IsS105 w0 _ g s0_0 x1001_1 x1002_1 from by repeat (first | (with_reducible first | exact HI0.out | apply IsS105.alloc | apply IsS105.drewN | apply IsS105.drew | apply IsS105.set_1 | apply IsS105.set_2 | refine IsS105.far ?_ NB0_200.out _ | refine IsS105.far ?_ NB0_207.out _) | exact HI0.out)) (g1 HO213.out) (by decide)) hk (fun _ h => h.2)) (fun _ h => h.1)) (KeepBut.trans (g44 HK.out GW200.out GW207.out) hk (.inl rfl)) hb hi; clear HO_208000 BK200 BK207 HO213 HK HB HI0; obtain ⟨HO_208000, BK200, BK207, HO213, HK, HB, HI0⟩ := n_; (try clear hb); (try clear hb2); (try clear hk); (try clear hi); have p217 : 0 ≤ (t214 : Int) := of_decide_eq_true (g6); have q217 : t214 < (t211.length : Int) := of_decide_eq_true (g6); obtain ⟨ad217, e217, hx217_0⟩ := Kd.at_int (Kd.R_reads' HO213.out).2.2 t214 p217 q217; cases e217; replace p217 := eq_true p217; replace q217 := eq_true q217))
   have n_ := spec_l17Right.K7_ (Kd.R_drew HO_208000.out) (Kd.R_drew HO213.out) (blk_drew BK200.out) (blk_drew BK207.out) (IsS105.drew HI0.out) (keep_drew HK.out) (below_drew1 HB.out)
   clear HO_208000 HO213 BK200 BK207 HI0 HK HB
   obtain ⟨HO_208000, HO213, BK200, BK207, HI0, HK, HB⟩ := n_
   refine start_ (n := 19) (S := fun w' => w'.cell? ⟨gb207, 0, none⟩ = some (.slice Ao30 x208000_1.length co30)) (ds := []) #[false, false, false, false, false, false, false, false, false, false, false, false, false, false, false, false, false, false, false] (by kernel_rfl) rfl rfl ((blk_cell BK207.out 0).trans rfl) (fun hHeld => ?_); refine with_tabW spec_l17Right.tab8 spec_l17Right.bits8 (fun HT_ HW_ => ?_)
   generalize w33.drew = w34 at HO_208000 HO213 BK200 BK207 HI0 HK HB hHeld ⊢
   refine pure_ (i := 1) (N := some 33) (v := ?_) (a' := ?_) #[false, true, false, false, false, false, false, false, false, false, false, false, false, false, false, false, false, false, false] rfl rfl (any_of HT_.out (by kernel_rfl)) (fun _ _ _ h => h) (Or.inl ⟨by rfl, ?_⟩) ?_ ?_
   rotate_left
   ·intro w'
    go_simp
    with_reducible rfl
   rotate_left
   ·exact ga0
   refine pure_ (i := 2) (N := some 34) (v := ?_) (a' := ?_) #[false, true, true, false, false, false, false, false, false, false, false, false, false, false, false, false, false, false, false] rfl rfl (any_of HT_.out (by kernel_rfl)) (fun _ _ _ h => h) (Or.inl ⟨by rfl, ?_⟩) ?_ ?_
   rotate_left
   ·intro w'
    go_simp
    with_reducible rfl
   rotate_left
   ·exact ga0
   refine pure_ (i := 3) (N := some 35) (v := ?_) (a' := ?_) #[false, true, true, true, false, false, false, false, false, false, false, false, false, false, false, false, false, false, false] rfl rfl (any_of HT_.out (by kernel_rfl)) (fun _ _ _ h => h) (Or.inl ⟨by rfl, ?_⟩) ?_ ?_
   rotate_left
   ·intro w'
    go_simp
    with_reducible rfl
   rotate_left
   ·exact ga0
   refine pure_ (i := 5) (N := some 37) (v := ?_) (a' := ?_) #[false, true, true, true, false, true, false, false, false, false, false, false, false, false, false, false, false, false, false] rfl rfl (any_of HT_.out (by kernel_rfl)) (fun _ _ _ h => h) (Or.inl ⟨by rfl, ?_⟩) ?_ ?_
   rotate_left
   ·intro w'
    go_simp
    with_reducible rfl
   rotate_left
   ·exact ga0
   refine pure_ (i := 10) (N := some 42) (v := ?_) (a' := ?_) #[false, true, true, true, false, true, false, false, false, false, true, false, false, false, false, false, false, false, false] rfl rfl (any_of HT_.out (by kernel_rfl)) (fun _ _ _ h => h) (Or.inl ⟨by rfl, ?_⟩) ?_ ?_
   rotate_left
   ·intro w'
    go_simp
    with_reducible rfl
   rotate_left
   ·exact ga0
   refine pure_ (i := 13) (N := some 45) (v := ?_) (a' := ?_) #[false, true, true, true, false, true, false, false, false, false, true, false, false, true, false, false, false, false, false] rfl rfl (any_of HT_.out (by kernel_rfl)) (fun _ _ _ h => h) (Or.inl ⟨by rfl, ?_⟩) ?_ ?_
   rotate_left
   ·intro w'
    go_simp
    with_reducible rfl
   rotate_left
   ·exact ga0
   refine take_ (i := 0) (N := some 32) (v := ?_) (a' := ?_) #[true, true, true, true, false, true, false, false, false, false, true, false, false, true, false, false, false, false, false] rfl rfl (take_ofW HT_.out HW_.out (by kernel_rfl)) (fun _ _ _ h => h) (Or.inl ⟨by rfl, ?_⟩) hHeld ?_ ?_
   rotate_left
   ·intro w' s0
    go_simp
    with_reducible rfl
   rotate_left
   ·exact ga0
   refine join_ (σ := Value × Nat) 1 spec_l17Right.b0_ (fun s_ => [(36, .int .i64 t218), (38, .int .i64 t221), (43, .int .i64 t224), (46, .int .i64 t227), (48, .agg #[s_.1]), (10, .pointer (some ⟨s_.2, 0, none⟩)), (39, .int .i64 (wrap64 (t221 - 4))), (40, .int .i64 (wrap64 (500 * (wrap64 (t221 - 4))))), (41, .agg #[.int .i64 t218, .int .i64 (wrap64 (500 * (wrap64 (t221 - 4)))), .int .i64 0, .int .i64 0, .int .i64 0]), (44, .int .i64 (wrap64 (t224 - 1000))), (47, .int .i64 (wrap64 (t227 - 1000)))]) (fun s_ w' => (w'.cell? ⟨gb207, 0, none⟩ = some (.slice Ao30 x208000_1.length co30)) ∧ (Kd.R (Kd.int .i64) 3 w' w.heap.size (fun _ => True) (.slice (some ad217) t211.length co32) t211) ∧ (Kd.R k93 93 w' w.heap.size (fun k_ => some k_ ≠ (.slice Ao30 x208000_1.length co30 : Value).ownBlock) s_.1 t230) ∧ (Kd.R k93 93 w' w.heap.size (fun k_ => some k_ ≠ (s_.1 : Value).ownBlock) (.slice Ao30 x208000_1.length co30) x208000_1) ∧ (w'.heap[gb200]? = some (.cells #[.slice none 0 0] 68 (0, 0))) ∧ (w'.heap[gb207]? = some (.cells #[.slice Ao30 x208000_1.length co30] 68 (0, 0))) ∧ (w'.heap[s_.2]? = some (.cells #[.slice none 0 0] 68 (0, 0))) ∧ (w.heap.size ≤ s_.2) ∧ (w0.heap.size ≤ s_.2) ∧ (g ≠ s_.2) ∧ (s_.2 ≠ g) ∧ (gb200 ≠ s_.2) ∧ (s_.2 ≠ gb200) ∧ (gb207 ≠ s_.2) ∧ (s_.2 ≠ gb207) ∧ (IsS105 w0 w' g s0_0 t228 t229) ∧ (KeepBut w w' g none) ∧ (Below w0.heap.size w0 w')) ?_ ?_
   rotate_left
   ·intro hJ4_6_11_14_16_17
    refine join_ (σ := Value) 2 spec_l17Right.b1_ (fun s_ => [(36, .int .i64 t218), (38, .int .i64 t221), (43, .int .i64 t224), (46, .int .i64 t227), (48, .agg #[s_]), (39, .int .i64 (wrap64 (t221 - 4))), (40, .int .i64 (wrap64 (500 * (wrap64 (t221 - 4))))), (41, .agg #[.int .i64 t218, .int .i64 (wrap64 (500 * (wrap64 (t221 - 4)))), .int .i64 0, .int .i64 0, .int .i64 0]), (44, .int .i64 (wrap64 (t224 - 1000))), (47, .int .i64 (wrap64 (t227 - 1000)))]) (fun s_ w' => (w'.cell? ⟨gb207, 0, none⟩ = some (.slice Ao30 x208000_1.length co30)) ∧ (Kd.R (Kd.int .i64) 3 w' w.heap.size (fun _ => True) (.slice (some ad217) t211.length co32) t211) ∧ (Kd.R k93 93 w' w.heap.size (fun k_ => some k_ ≠ (.slice Ao30 x208000_1.length co30 : Value).ownBlock) s_ t230) ∧ (Kd.R k93 93 w' w.heap.size (fun k_ => some k_ ≠ (s_ : Value).ownBlock) (.slice Ao30 x208000_1.length co30) x208000_1) ∧ (w'.heap[gb200]? = some (.cells #[.slice none 0 0] 68 (0, 0))) ∧ (w'.heap[gb207]? = some (.cells #[.slice Ao30 x208000_1.length co30] 68 (0, 0))) ∧ (IsS105 w0 w' g s0_0 t228 t229) ∧ (KeepBut w w' g none) ∧ (Below w0.heap.size w0 w')) ?_ ?_
    rotate_left
    ·intro hJ4_6_11_14_16
     refine join_ (σ := Nat) 2 spec_l17Right.b2_ (fun s_ => [(36, .int .i64 t218), (38, .int .i64 t221), (43, .int .i64 t224), (46, .int .i64 t227), (10, .pointer (some ⟨s_, 0, none⟩)), (39, .int .i64 (wrap64 (t221 - 4))), (40, .int .i64 (wrap64 (500 * (wrap64 (t221 - 4))))), (41, .agg #[.int .i64 t218, .int .i64 (wrap64 (500 * (wrap64 (t221 - 4)))), .int .i64 0, .int .i64 0, .int .i64 0]), (44, .int .i64 (wrap64 (t224 - 1000))), (47, .int .i64 (wrap64 (t227 - 1000)))]) (fun s_ w' => (w'.cell? ⟨gb207, 0, none⟩ = some (.slice Ao30 x208000_1.length co30)) ∧ (Kd.R (Kd.int .i64) 3 w' w.heap.size (fun _ => True) (.slice (some ad217) t211.length co32) t211) ∧ (Kd.R k93 93 w' w.heap.size (fun _ => True) (.slice Ao30 x208000_1.length co30) x208000_1) ∧ (w'.heap[gb200]? = some (.cells #[.slice none 0 0] 68 (0, 0))) ∧ (w'.heap[gb207]? = some (.cells #[.slice Ao30 x208000_1.length co30] 68 (0, 0))) ∧ (w'.heap[s_]? = some (.cells #[.slice none 0 0] 68 (0, 0))) ∧ (w.heap.size ≤ s_) ∧ (w0.heap.size ≤ s_) ∧ (g ≠ s_) ∧ (s_ ≠ g) ∧ (gb200 ≠ s_) ∧ (s_ ≠ gb200) ∧ (gb207 ≠ s_) ∧ (s_ ≠ gb207) ∧ (IsS105 w0 w' g s0_0 t228 t229) ∧ (KeepBut w w' g none) ∧ (Below w0.heap.size w0 w')) ?_ ?_
     rotate_left
     ·intro hJ4_6_11_14_17
      refine join_ (σ := Unit) 3 spec_l17Right.b3_ (fun s_ => [(36, .int .i64 t218), (38, .int .i64 t221), (43, .int .i64 t224), (46, .int .i64 t227), (39, .int .i64 (wrap64 (t221 - 4))), (40, .int .i64 (wrap64 (500 * (wrap64 (t221 - 4))))), (41, .agg #[.int .i64 t218, .int .i64 (wrap64 (500 * (wrap64 (t221 - 4)))), .int .i64 0, .int .i64 0, .int .i64 0]), (44, .int .i64 (wrap64 (t224 - 1000))), (47, .int .i64 (wrap64 (t227 - 1000)))]) (fun s_ w' => (w'.cell? ⟨gb207, 0, none⟩ = some (.slice Ao30 x208000_1.length co30)) ∧ (Kd.R (Kd.int .i64) 3 w' w.heap.size (fun _ => True) (.slice (some ad217) t211.length co32) t211) ∧ (Kd.R k93 93 w' w.heap.size (fun _ => True) (.slice Ao30 x208000_1.length co30) x208000_1) ∧ (w'.heap[gb200]? = some (.cells #[.slice none 0 0] 68 (0, 0))) ∧ (w'.heap[gb207]? = some (.cells #[.slice Ao30 x208000_1.length co30] 68 (0, 0))) ∧ (IsS105 w0 w' g s0_0 t228 t229) ∧ (KeepBut w w' g none) ∧ (Below w0.heap.size w0 w')) ?_ ?_
      rotate_left
      ·intro hJ4_6_11_14
       refine join_ (σ := Nat) 4 spec_l17Right.b4_ (fun s_ => [(36, .int .i64 t218), (38, .int .i64 t221), (43, .int .i64 t224), (10, .pointer (some ⟨s_, 0, none⟩)), (39, .int .i64 (wrap64 (t221 - 4))), (40, .int .i64 (wrap64 (500 * (wrap64 (t221 - 4))))), (41, .agg #[.int .i64 t218, .int .i64 (wrap64 (500 * (wrap64 (t221 - 4)))), .int .i64 0, .int .i64 0, .int .i64 0]), (44, .int .i64 (wrap64 (t224 - 1000)))]) (fun s_ w' => (w'.cell? ⟨gb207, 0, none⟩ = some (.slice Ao30 x208000_1.length co30)) ∧ (Kd.R (Kd.int .i64) 3 w' w.heap.size (fun _ => True) (.slice (some ad217) t211.length co32) t211) ∧ (Kd.R k93 93 w' w.heap.size (fun _ => True) (.slice Ao30 x208000_1.length co30) x208000_1) ∧ (w'.heap[gb200]? = some (.cells #[.slice none 0 0] 68 (0, 0))) ∧ (w'.heap[gb207]? = some (.cells #[.slice Ao30 x208000_1.length co30] 68 (0, 0))) ∧ (w'.heap[s_]? = some (.cells #[.slice none 0 0] 68 (0, 0))) ∧ (w.heap.size ≤ s_) ∧ (w0.heap.size ≤ s_) ∧ (g ≠ s_) ∧ (s_ ≠ g) ∧ (gb200 ≠ s_) ∧ (s_ ≠ gb200) ∧ (gb207 ≠ s_) ∧ (s_ ≠ gb207) ∧ (IsS105 w0 w' g s0_0 t225 t226) ∧ (KeepBut w w' g none) ∧ (Below w0.heap.size w0 w')) ?_ ?_
       rotate_left
       ·intro hJ4_6_11_17
        refine join_ (σ := Unit) 5 spec_l17Right.b5_ (fun s_ => [(36, .int .i64 t218), (38, .int .i64 t221), (43, .int .i64 t224), (39, .int .i64 (wrap64 (t221 - 4))), (40, .int .i64 (wrap64 (500 * (wrap64 (t221 - 4))))), (41, .agg #[.int .i64 t218, .int .i64 (wrap64 (500 * (wrap64 (t221 - 4)))), .int .i64 0, .int .i64 0, .int .i64 0]), (44, .int .i64 (wrap64 (t224 - 1000)))]) (fun s_ w' => (w'.cell? ⟨gb207, 0, none⟩ = some (.slice Ao30 x208000_1.length co30)) ∧ (Kd.R (Kd.int .i64) 3 w' w.heap.size (fun _ => True) (.slice (some ad217) t211.length co32) t211) ∧ (Kd.R k93 93 w' w.heap.size (fun _ => True) (.slice Ao30 x208000_1.length co30) x208000_1) ∧ (w'.heap[gb200]? = some (.cells #[.slice none 0 0] 68 (0, 0))) ∧ (w'.heap[gb207]? = some (.cells #[.slice Ao30 x208000_1.length co30] 68 (0, 0))) ∧ (IsS105 w0 w' g s0_0 t225 t226) ∧ (KeepBut w w' g none) ∧ (Below w0.heap.size w0 w')) ?_ ?_
        rotate_left
        ·intro hJ4_6_11
         refine join_ (σ := Nat) 6 spec_l17Right.b6_ (fun s_ => [(36, .int .i64 t218), (38, .int .i64 t221), (10, .pointer (some ⟨s_, 0, none⟩)), (39, .int .i64 (wrap64 (t221 - 4))), (40, .int .i64 (wrap64 (500 * (wrap64 (t221 - 4))))), (41, .agg #[.int .i64 t218, .int .i64 (wrap64 (500 * (wrap64 (t221 - 4)))), .int .i64 0, .int .i64 0, .int .i64 0])]) (fun s_ w' => (w'.cell? ⟨gb207, 0, none⟩ = some (.slice Ao30 x208000_1.length co30)) ∧ (Kd.R (Kd.int .i64) 3 w' w.heap.size (fun _ => True) (.slice (some ad217) t211.length co32) t211) ∧ (Kd.R k93 93 w' w.heap.size (fun _ => True) (.slice Ao30 x208000_1.length co30) x208000_1) ∧ (w'.heap[gb200]? = some (.cells #[.slice none 0 0] 68 (0, 0))) ∧ (w'.heap[gb207]? = some (.cells #[.slice Ao30 x208000_1.length co30] 68 (0, 0))) ∧ (w'.heap[s_]? = some (.cells #[.slice none 0 0] 68 (0, 0))) ∧ (w.heap.size ≤ s_) ∧ (w0.heap.size ≤ s_) ∧ (g ≠ s_) ∧ (s_ ≠ g) ∧ (gb200 ≠ s_) ∧ (s_ ≠ gb200) ∧ (gb207 ≠ s_) ∧ (s_ ≠ gb207) ∧ (IsS105 w0 w' g s0_0 t222 t223) ∧ (KeepBut w w' g none) ∧ (Below w0.heap.size w0 w')) ?_ ?_
         rotate_left
         ·intro hJ4_6_17
          refine join_ (σ := Unit) 7 spec_l17Right.b7_ (fun s_ => [(36, .int .i64 t218), (38, .int .i64 t221), (39, .int .i64 (wrap64 (t221 - 4))), (40, .int .i64 (wrap64 (500 * (wrap64 (t221 - 4))))), (41, .agg #[.int .i64 t218, .int .i64 (wrap64 (500 * (wrap64 (t221 - 4)))), .int .i64 0, .int .i64 0, .int .i64 0])]) (fun s_ w' => (w'.cell? ⟨gb207, 0, none⟩ = some (.slice Ao30 x208000_1.length co30)) ∧ (Kd.R (Kd.int .i64) 3 w' w.heap.size (fun _ => True) (.slice (some ad217) t211.length co32) t211) ∧ (Kd.R k93 93 w' w.heap.size (fun _ => True) (.slice Ao30 x208000_1.length co30) x208000_1) ∧ (w'.heap[gb200]? = some (.cells #[.slice none 0 0] 68 (0, 0))) ∧ (w'.heap[gb207]? = some (.cells #[.slice Ao30 x208000_1.length co30] 68 (0, 0))) ∧ (IsS105 w0 w' g s0_0 t222 t223) ∧ (KeepBut w w' g none) ∧ (Below w0.heap.size w0 w')) ?_ ?_
          rotate_left
          ·intro hJ4_6
           refine join_ (σ := Nat) 10 spec_l17Right.b8_ (fun s_ => [(36, .int .i64 t218), (10, .pointer (some ⟨s_, 0, none⟩))]) (fun s_ w' => (w'.cell? ⟨gb207, 0, none⟩ = some (.slice Ao30 x208000_1.length co30)) ∧ (Kd.R (Kd.int .i64) 3 w' w.heap.size (fun _ => True) (.slice (some ad217) t211.length co32) t211) ∧ (Kd.R k93 93 w' w.heap.size (fun _ => True) (.slice Ao30 x208000_1.length co30) x208000_1) ∧ (w'.heap[gb200]? = some (.cells #[.slice none 0 0] 68 (0, 0))) ∧ (w'.heap[gb207]? = some (.cells #[.slice Ao30 x208000_1.length co30] 68 (0, 0))) ∧ (w'.heap[s_]? = some (.cells #[.slice none 0 0] 68 (0, 0))) ∧ (w.heap.size ≤ s_) ∧ (w0.heap.size ≤ s_) ∧ (g ≠ s_) ∧ (s_ ≠ g) ∧ (gb200 ≠ s_) ∧ (s_ ≠ gb200) ∧ (gb207 ≠ s_) ∧ (s_ ≠ gb207) ∧ (IsS105 w0 w' g s0_0 t219 t220) ∧ (KeepBut w w' g none) ∧ (Below w0.heap.size w0 w')) ?_ ?_
           rotate_left
           ·intro hJ4_17
            refine join_ (σ := Unit) 11 spec_l17Right.b9_ (fun s_ => [(36, .int .i64 t218)]) (fun s_ w' => (w'.cell? ⟨gb207, 0, none⟩ = some (.slice Ao30 x208000_1.length co30)) ∧ (Kd.R (Kd.int .i64) 3 w' w.heap.size (fun _ => True) (.slice (some ad217) t211.length co32) t211) ∧ (Kd.R k93 93 w' w.heap.size (fun _ => True) (.slice Ao30 x208000_1.length co30) x208000_1) ∧ (w'.heap[gb200]? = some (.cells #[.slice none 0 0] 68 (0, 0))) ∧ (w'.heap[gb207]? = some (.cells #[.slice Ao30 x208000_1.length co30] 68 (0, 0))) ∧ (IsS105 w0 w' g s0_0 t219 t220) ∧ (KeepBut w w' g none) ∧ (Below w0.heap.size w0 w')) ?_ ?_
            rotate_left
            ·intro hJ4
             refine join_ (σ := Nat) 11 spec_l17Right.b10_ (fun s_ => [(10, .pointer (some ⟨s_, 0, none⟩))]) (fun s_ w' => (w'.cell? ⟨gb207, 0, none⟩ = some (.slice Ao30 x208000_1.length co30)) ∧ (Kd.R (Kd.int .i64) 3 w' w.heap.size (fun _ => True) (.slice (some ad217) t211.length co32) t211) ∧ (Kd.R k93 93 w' w.heap.size (fun _ => True) (.slice Ao30 x208000_1.length co30) x208000_1) ∧ (w'.heap[gb200]? = some (.cells #[.slice none 0 0] 68 (0, 0))) ∧ (w'.heap[gb207]? = some (.cells #[.slice Ao30 x208000_1.length co30] 68 (0, 0))) ∧ (w'.heap[s_]? = some (.cells #[.slice none 0 0] 68 (0, 0))) ∧ (w.heap.size ≤ s_) ∧ (w0.heap.size ≤ s_) ∧ (g ≠ s_) ∧ (s_ ≠ g) ∧ (gb200 ≠ s_) ∧ (s_ ≠ gb200) ∧ (gb207 ≠ s_) ∧ (s_ ≠ gb207) ∧ (IsS105 w0 w' g s0_0 t215 t216) ∧ (KeepBut w w' g none) ∧ (Below w0.heap.size w0 w')) ?_ ?_
             rotate_left
             ·intro hJ17
              refine two_ (i := 4) (j := 17) (Ni := some 36) (Nj := some 10) spec_l17Right.b9_ spec_l17Right.b10_ rfl rfl rfl rfl (two_of HT_.out (by kernel_rfl)) (by decide) (by decide) (fun K hK => ?_) (fun K hK => ?_)
              ·skip
               refine goes_ Try.func101 (by kernel_rfl) rfl #[.pointer (some ⟨g, 0, none⟩), .int .i64 a1] (by rfl) rfl rfl (g9) ?_
               with_reducible refine (spec_l1Below.calls g s0_0 t215 t216 a1 t218 t219 t220 w0 _ ?side1 ?side2 A20.out).mono ?_
               (case side1 => exact g42 HI0.out NB0_200.out NB0_207.out)
               (case side2 => exact g43 HB.out HI0.out GE200.out GE207.out)
               rintro e w35 ⟨rfl, hi, hb, hk⟩
               refine ⟨_, rfl, ?_⟩
               have n_ := spec_l17Right.K7_ (Kd.R_mono (Kd.R_keep (IsS105.apart (show IsS105 w0 _ g s0_0 t215 t216 from by repeat (first | (with_reducible first | exact HI0.out | apply IsS105.alloc | apply IsS105.drewN | apply IsS105.drew | apply IsS105.set_1 | apply IsS105.set_2 | refine IsS105.far ?_ NB0_200.out _ | refine IsS105.far ?_ NB0_207.out _) | exact HI0.out)) (g1 HO_208000.out) (by decide)) hk (fun _ h => h.2)) (fun _ h => h.1)) (KeepBut.blk hk (g' := gb200) (o := .cells #[.slice none 0 0] 68 (0, 0)) (g2 BK200.out) NB200_0.out (by simp)) (KeepBut.blk hk (g' := gb207) (o := .cells #[.slice Ao30 x208000_1.length co30] 68 (0, 0)) (g2 BK207.out) NB207_0.out (by simp)) (Kd.R_mono (Kd.R_keep (IsS105.apart (show IsS105 w0 _ g s0_0 t215 t216 from by repeat (first | (with_reducible first | exact HI0.out | apply IsS105.alloc | apply IsS105.drewN | apply IsS105.drew | apply IsS105.set_1 | apply IsS105.set_2 | refine IsS105.far ?_ NB0_200.out _ | refine IsS105.far ?_ NB0_207.out _) | exact HI0.out)) (g1 HO213.out) (by decide)) hk (fun _ h => h.2)) (fun _ h => h.1)) (KeepBut.trans (g44 HK.out GW200.out GW207.out) hk (.inl rfl)) hb hi
               clear HO_208000 BK200 BK207 HO213 HK HB HI0
               obtain ⟨HO_208000, BK200, BK207, HO213, HK, HB, HI0⟩ := n_
               (try clear hb)
               (try clear hb2)
               (try clear hk)
               (try clear hi)
               refine hK.out _ _ ((blk_cell BK207.out 0).trans rfl) (fun hHeld => ?_)
               clear hK K
               refine norm_ (a' := ?_) ?_ ?_
               rotate_left
               ·show Act.put _ (some 36) _ = _
                simp only [Act.put, List.setIfInBounds_toArray, List.set_cons_zero, List.set_cons_succ, i64_w, i32_w]
                rfl
               exact norm_ (g45) (hJ4 () _ ⟨hHeld, (g1 HO213.out), (g1 HO_208000.out), (g2 BK200.out), (g2 BK207.out), (g42 HI0.out NB0_200.out NB0_207.out), (g44 HK.out GW200.out GW207.out), (g43 HB.out HI0.out GE200.out GE207.out)⟩)
              ·skip
               refine box_step ?hg (N := 10) ?hd (cs := #[.slice none 0 0]) (t := 68) ?hr ?_; (case hd => rfl); (case hg => rfl); (case hr => exact g10)
               intro gb233 hg w35 hbox hb
               have n_ := spec_l17Right.K16_ (Kd.R_below (g1 HO_208000.out) hb) (Kd.R_below (g1 HO213.out) hb) (blk_below (g := gb200) (o := .cells #[.slice none 0 0] 68 (0, 0)) (g2 BK200.out) hb) (blk_below (g := gb207) (o := .cells #[.slice Ao30 x208000_1.length co30] 68 (0, 0)) (g2 BK207.out) hb) (IsS105.below (g42 HI0.out NB0_200.out NB0_207.out) hb) (KeepBut.trans (g44 HK.out GW200.out GW207.out) (KeepBut.of_below hb g none) (.inl rfl)) (below_step (g43 HB.out HI0.out GE200.out GE207.out) hb) hbox ((spec_l17Right.z2 : w.heap.size ≤ gb233)) ((Nat.le_trans HW0.out (spec_l17Right.z2 : w.heap.size ≤ gb233) : w0.heap.size ≤ gb233)) ((spec_l17Right.z0 : gb200 ≠ gb233)) ((spec_l17Right.z1 : gb233 ≠ gb200)) ((spec_l17Right.z3 : gb207 ≠ gb233)) ((spec_l17Right.z4 : gb233 ≠ gb207)) ((by rw [hg]; exact Nat.ne_of_lt (IsS105.lt (show IsS105 w0 _ g s0_0 t215 t216 from by repeat (first | (with_reducible first | exact HI0.out | apply IsS105.alloc | apply IsS105.drewN | apply IsS105.drew | apply IsS105.set_1 | apply IsS105.set_2 | refine IsS105.far ?_ NB0_200.out _ | refine IsS105.far ?_ NB0_207.out _) | exact HI0.out))) : g ≠ gb233)) ((by rw [hg]; exact Nat.ne_of_gt (IsS105.lt (show IsS105 w0 _ g s0_0 t215 t216 from by repeat (first | (with_reducible first | exact HI0.out | apply IsS105.alloc | apply IsS105.drewN | apply IsS105.drew | apply IsS105.set_1 | apply IsS105.set_2 | refine IsS105.far ?_ NB0_200.out _ | refine IsS105.far ?_ NB0_207.out _) | exact HI0.out))) : gb233 ≠ g))
               clear HO_208000 HO213 BK200 BK207 HI0 HK HB
               obtain ⟨HO_208000, HO213, BK200, BK207, HI0, HK, HB, BK233, GW233, GE233, NB200_233, NB233_200, NB207_233, NB233_207, NB0_233, NB233_0⟩ := n_
               clear hb hbox hg
               refine hK.out _ _ ((blk_cell BK207.out 0).trans rfl) (fun hHeld => ?_)
               clear hK K
               refine norm_ (a' := ?_) ?_ ?_
               rotate_left
               ·show Act.put _ (some 10) _ = _
                simp only [Act.put, List.setIfInBounds_toArray, List.set_cons_zero, List.set_cons_succ, i64_w, i32_w]
                rfl
               exact norm_ (g45) (hJ17 (gb233) _ ⟨hHeld, (g1 HO213.out), (g1 HO_208000.out), (g2 BK200.out), (g2 BK207.out), (g2 BK233.out), GW233.out, GE233.out, NB0_233.out, NB233_0.out, NB200_233.out, NB233_200.out, NB207_233.out, NB233_207.out, (g46 HI0.out NB0_200.out NB0_207.out NB0_233.out), (g47 HK.out GW200.out GW207.out GW233.out), (g48 HB.out HI0.out GE200.out GE207.out GE233.out)⟩)
             ·skip
              rintro gb233 w36 ⟨hS_, h0_, h1_, h2_, h3_, h4_, h5_, h6_, h7_, h8_, h9_, h10_, h11_, h12_, h13_, h14_, h15_⟩
              have n0_ : Aside0 (Kd.R (Kd.int .i64) 3 w36 w.heap.size (fun _ => True) (.slice (some ad217) t211.length co32) t211) := ⟨h0_⟩
              have n1_ : Aside0 (Kd.R k93 93 w36 w.heap.size (fun _ => True) (.slice Ao30 x208000_1.length co30) x208000_1) := ⟨h1_⟩
              have n2_ : Aside0 (w36.heap[gb200]? = some (.cells #[.slice none 0 0] 68 (0, 0))) := ⟨h2_⟩
              have n3_ : Aside0 (w36.heap[gb207]? = some (.cells #[.slice Ao30 x208000_1.length co30] 68 (0, 0))) := ⟨h3_⟩
              have n4_ : Aside0 (w36.heap[gb233]? = some (.cells #[.slice none 0 0] 68 (0, 0))) := ⟨h4_⟩
              have n5_ : Aside0 (w.heap.size ≤ gb233) := ⟨h5_⟩
              have n6_ : Aside0 (w0.heap.size ≤ gb233) := ⟨h6_⟩
              have n7_ : Aside0 (g ≠ gb233) := ⟨h7_⟩
              have n8_ : Aside0 (gb233 ≠ g) := ⟨h8_⟩
              have n9_ : Aside0 (gb200 ≠ gb233) := ⟨h9_⟩
              have n10_ : Aside0 (gb233 ≠ gb200) := ⟨h10_⟩
              have n11_ : Aside0 (gb207 ≠ gb233) := ⟨h11_⟩
              have n12_ : Aside0 (gb233 ≠ gb207) := ⟨h12_⟩
              have n13_ : Aside0 (IsS105 w0 w36 g s0_0 t215 t216) := ⟨h13_⟩
              have n14_ : Aside0 (KeepBut w w36 g none) := ⟨h14_⟩
              have n15_ : Aside0 (Below w0.heap.size w0 w36) := ⟨h15_⟩
              clear HO_208000
              clear HO213
              clear BK200
              clear BK207
              clear HI0
              clear HK
              clear HB
              clear h0_ h1_ h2_ h3_ h4_ h5_ h6_ h7_ h8_ h9_ h10_ h11_ h12_ h13_ h14_ h15_
              have HO213 := n0_
              have HO_208000 := n1_
              have BK200 := n2_
              have BK207 := n3_
              have BK233 := n4_
              have GW233 := n5_
              have GE233 := n6_
              have NB0_233 := n7_
              have NB233_0 := n8_
              have NB200_233 := n9_
              have NB233_200 := n10_
              have NB207_233 := n11_
              have NB233_207 := n12_
              have HI0 := n13_
              have HK := n14_
              have HB := n15_
              clear n0_ n1_ n2_ n3_ n4_ n5_ n6_ n7_ n8_ n9_ n10_ n11_ n12_ n13_ n14_ n15_
              have hHeld : w36.cell? ⟨gb207, 0, none⟩ = some (.slice Ao30 x208000_1.length co30) := hS_
              refine norm_ (a' := ?_) ?_ ?_
              rotate_left
              ·exact ga1
              refine one_ (i := 4) (N := some 36) spec_l17Right.b8_ rfl rfl (one_of HT_.out (by kernel_rfl)) (by decide) (fun K hK => ?_)
              refine goes_ Try.func101 (by kernel_rfl) rfl #[.pointer (some ⟨g, 0, none⟩), .int .i64 a1] (by rfl) rfl rfl (g9) ?_
              with_reducible refine (spec_l1Below.calls g s0_0 t215 t216 a1 t218 t219 t220 w0 _ ?side1 ?side2 A20.out).mono ?_
              (case side1 => exact g46 HI0.out NB0_200.out NB0_207.out NB0_233.out)
              (case side2 => exact g48 HB.out HI0.out GE200.out GE207.out GE233.out)
              rintro e w37 ⟨rfl, hi, hb, hk⟩
              refine ⟨_, rfl, ?_⟩
              have n_ := spec_l17Right.K8_ (Kd.R_mono (Kd.R_keep (IsS105.apart (show IsS105 w0 _ g s0_0 t215 t216 from by repeat (first | (with_reducible first | exact HI0.out | apply IsS105.alloc | apply IsS105.drewN | apply IsS105.drew | apply IsS105.set_1 | apply IsS105.set_2 | refine IsS105.far ?_ NB0_200.out _ | refine IsS105.far ?_ NB0_207.out _ | refine IsS105.far ?_ NB0_233.out _) | exact HI0.out)) (g1 HO_208000.out) (by decide)) hk (fun _ h => h.2)) (fun _ h => h.1)) (KeepBut.blk hk (g' := gb200) (o := .cells #[.slice none 0 0] 68 (0, 0)) (g2 BK200.out) NB200_0.out (by simp)) (KeepBut.blk hk (g' := gb207) (o := .cells #[.slice Ao30 x208000_1.length co30] 68 (0, 0)) (g2 BK207.out) NB207_0.out (by simp)) (Kd.R_mono (Kd.R_keep (IsS105.apart (show IsS105 w0 _ g s0_0 t215 t216 from by repeat (first | (with_reducible first | exact HI0.out | apply IsS105.alloc | apply IsS105.drewN | apply IsS105.drew | apply IsS105.set_1 | apply IsS105.set_2 | refine IsS105.far ?_ NB0_200.out _ | refine IsS105.far ?_ NB0_207.out _ | refine IsS105.far ?_ NB0_233.out _) | exact HI0.out)) (g1 HO213.out) (by decide)) hk (fun _ h => h.2)) (fun _ h => h.1)) (KeepBut.blk hk (g' := gb233) (o := .cells #[.slice none 0 0] 68 (0, 0)) (g2 BK233.out) NB233_0.out (by simp)) (KeepBut.trans (g47 HK.out GW200.out GW207.out GW233.out) hk (.inl rfl)) hb hi
              clear HO_208000 BK200 BK207 HO213 BK233 HK HB HI0
              obtain ⟨HO_208000, BK200, BK207, HO213, BK233, HK, HB, HI0⟩ := n_
              (try clear hb)
              (try clear hb2)
              (try clear hk)
              (try clear hi)
              refine hK.out _ _ ((blk_cell BK207.out 0).trans rfl) (fun hHeld => ?_)
              clear hK K
              refine norm_ (a' := ?_) ?_ ?_
              rotate_left
              ·show Act.put _ (some 36) _ = _
               simp only [Act.put, List.setIfInBounds_toArray, List.set_cons_zero, List.set_cons_succ, i64_w, i32_w]
               rfl
              exact norm_ (g45) (hJ4_17 (gb233) _ ⟨hHeld, (g1 HO213.out), (g1 HO_208000.out), (g2 BK200.out), (g2 BK207.out), (g2 BK233.out), GW233.out, GE233.out, NB0_233.out, NB233_0.out, NB200_233.out, NB233_200.out, NB207_233.out, NB233_207.out, (g46 HI0.out NB0_200.out NB0_207.out NB0_233.out), (g47 HK.out GW200.out GW207.out GW233.out), (g48 HB.out HI0.out GE200.out GE207.out GE233.out)⟩)
            ·skip
             rintro _ w36 ⟨hS_, h0_, h1_, h2_, h3_, h4_, h5_, h6_⟩
             have n0_ : Aside0 (Kd.R (Kd.int .i64) 3 w36 w.heap.size (fun _ => True) (.slice (some ad217) t211.length co32) t211) := ⟨h0_⟩
             have n1_ : Aside0 (Kd.R k93 93 w36 w.heap.size (fun _ => True) (.slice Ao30 x208000_1.length co30) x208000_1) := ⟨h1_⟩
             have n2_ : Aside0 (w36.heap[gb200]? = some (.cells #[.slice none 0 0] 68 (0, 0))) := ⟨h2_⟩
             have n3_ : Aside0 (w36.heap[gb207]? = some (.cells #[.slice Ao30 x208000_1.length co30] 68 (0, 0))) := ⟨h3_⟩
             have n4_ : Aside0 (IsS105 w0 w36 g s0_0 t219 t220) := ⟨h4_⟩
             have n5_ : Aside0 (KeepBut w w36 g none) := ⟨h5_⟩
             have n6_ : Aside0 (Below w0.heap.size w0 w36) := ⟨h6_⟩
             clear HO_208000
             clear HO213
             clear BK200
             clear BK207
             clear HI0
             clear HK
             clear HB
             clear h0_ h1_ h2_ h3_ h4_ h5_ h6_
             have HO213 := n0_
             have HO_208000 := n1_
             have BK200 := n2_
             have BK207 := n3_
             have HI0 := n4_
             have HK := n5_
             have HB := n6_
             clear n0_ n1_ n2_ n3_ n4_ n5_ n6_
             have hHeld : w36.cell? ⟨gb207, 0, none⟩ = some (.slice Ao30 x208000_1.length co30) := hS_
             refine norm_ (a' := ?_) ?_ ?_
             rotate_left
             ·exact ga1
             refine two_ (i := 6) (j := 17) (Ni := some 38) (Nj := some 10) #[true, true, true, true, true, true, true, false, false, false, true, false, false, true, false, false, false, false, false] spec_l17Right.b8_ rfl rfl rfl rfl (two_of HT_.out (by kernel_rfl)) (by decide) (by decide) (fun K hK => ?_) (fun K hK => ?_)
             ·skip
              refine goes_ Try.func101 (by kernel_rfl) rfl #[.pointer (some ⟨g, 0, none⟩), .int .i64 9] (by rfl) rfl rfl (g9) ?_
              with_reducible refine (spec_l1Below.calls g s0_0 t219 t220 9 t221 t222 t223 w0 _ ?side1 ?side2 A21.out).mono ?_
              (case side1 => exact g42 HI0.out NB0_200.out NB0_207.out)
              (case side2 => exact g43 HB.out HI0.out GE200.out GE207.out)
              rintro e w37 ⟨rfl, hi, hb, hk⟩
              refine ⟨_, rfl, ?_⟩
              have n_ := spec_l17Right.K7_ (Kd.R_mono (Kd.R_keep (IsS105.apart (show IsS105 w0 _ g s0_0 t219 t220 from by repeat (first | (with_reducible first | exact HI0.out | apply IsS105.alloc | apply IsS105.drewN | apply IsS105.drew | apply IsS105.set_1 | apply IsS105.set_2 | refine IsS105.far ?_ NB0_200.out _ | refine IsS105.far ?_ NB0_207.out _) | exact HI0.out)) (g1 HO_208000.out) (by decide)) hk (fun _ h => h.2)) (fun _ h => h.1)) (KeepBut.blk hk (g' := gb200) (o := .cells #[.slice none 0 0] 68 (0, 0)) (g2 BK200.out) NB200_0.out (by simp)) (KeepBut.blk hk (g' := gb207) (o := .cells #[.slice Ao30 x208000_1.length co30] 68 (0, 0)) (g2 BK207.out) NB207_0.out (by simp)) (Kd.R_mono (Kd.R_keep (IsS105.apart (show IsS105 w0 _ g s0_0 t219 t220 from by repeat (first | (with_reducible first | exact HI0.out | apply IsS105.alloc | apply IsS105.drewN | apply IsS105.drew | apply IsS105.set_1 | apply IsS105.set_2 | refine IsS105.far ?_ NB0_200.out _ | refine IsS105.far ?_ NB0_207.out _) | exact HI0.out)) (g1 HO213.out) (by decide)) hk (fun _ h => h.2)) (fun _ h => h.1)) (KeepBut.trans (g44 HK.out GW200.out GW207.out) hk (.inl rfl)) hb hi
              clear HO_208000 BK200 BK207 HO213 HK HB HI0
              obtain ⟨HO_208000, BK200, BK207, HO213, HK, HB, HI0⟩ := n_
              (try clear hb)
              (try clear hb2)
              (try clear hk)
              (try clear hi)
              refine hK.out _ _ ((blk_cell BK207.out 0).trans rfl) (fun hHeld => ?_)
              clear hK K
              refine norm_ (a' := ?_) ?_ ?_
              rotate_left
              ·show Act.put _ (some 38) _ = _
               simp only [Act.put, List.setIfInBounds_toArray, List.set_cons_zero, List.set_cons_succ, i64_w, i32_w]
               rfl
              refine pure_ (i := 7) (N := some 39) (v := ?_) (a' := ?_) #[true, true, true, true, true, true, true, true, false, false, true, false, false, true, false, false, false, false, false] rfl rfl (any_of HT_.out (by kernel_rfl)) (fun _ _ _ h => h) (Or.inl ⟨by rfl, ?_⟩) ?_ ?_
              rotate_left
              ·intro w'
               go_simp
               with_reducible rfl
              rotate_left
              ·exact ga0
              refine pure_ (i := 8) (N := some 40) (v := ?_) (a' := ?_) #[true, true, true, true, true, true, true, true, true, false, true, false, false, true, false, false, false, false, false] rfl rfl (any_of HT_.out (by kernel_rfl)) (fun _ _ _ h => h) (Or.inl ⟨by rfl, ?_⟩) ?_ ?_
              rotate_left
              ·intro w'
               go_simp
               with_reducible rfl
              rotate_left
              ·exact ga0
              refine pure_ (i := 9) (N := some 41) (v := ?_) (a' := ?_) spec_l17Right.b7_ rfl rfl (any_of HT_.out (by kernel_rfl)) (fun _ _ _ h => h) (Or.inl ⟨by rfl, ?_⟩) ?_ ?_
              rotate_left
              ·intro w'
               go_simp
               with_reducible rfl
              rotate_left
              ·exact ga0
              exact norm_ (g45) (hJ4_6 () _ ⟨hHeld, (g1 HO213.out), (g1 HO_208000.out), (g2 BK200.out), (g2 BK207.out), (g42 HI0.out NB0_200.out NB0_207.out), (g44 HK.out GW200.out GW207.out), (g43 HB.out HI0.out GE200.out GE207.out)⟩)
             ·skip
              refine box_step ?hg (N := 10) ?hd (cs := #[.slice none 0 0]) (t := 68) ?hr ?_; (case hd => rfl); (case hg => rfl); (case hr => exact g10)
              intro gb233 hg w37 hbox hb
              have n_ := spec_l17Right.K16_ (Kd.R_below (g1 HO_208000.out) hb) (Kd.R_below (g1 HO213.out) hb) (blk_below (g := gb200) (o := .cells #[.slice none 0 0] 68 (0, 0)) (g2 BK200.out) hb) (blk_below (g := gb207) (o := .cells #[.slice Ao30 x208000_1.length co30] 68 (0, 0)) (g2 BK207.out) hb) (IsS105.below (g42 HI0.out NB0_200.out NB0_207.out) hb) (KeepBut.trans (g44 HK.out GW200.out GW207.out) (KeepBut.of_below hb g none) (.inl rfl)) (below_step (g43 HB.out HI0.out GE200.out GE207.out) hb) hbox ((spec_l17Right.z2 : w.heap.size ≤ gb233)) ((Nat.le_trans HW0.out (spec_l17Right.z2 : w.heap.size ≤ gb233) : w0.heap.size ≤ gb233)) ((spec_l17Right.z0 : gb200 ≠ gb233)) ((spec_l17Right.z1 : gb233 ≠ gb200)) ((spec_l17Right.z3 : gb207 ≠ gb233)) ((spec_l17Right.z4 : gb233 ≠ gb207)) ((by rw [hg]; exact Nat.ne_of_lt (IsS105.lt (show IsS105 w0 _ g s0_0 t219 t220 from by repeat (first | (with_reducible first | exact HI0.out | apply IsS105.alloc | apply IsS105.drewN | apply IsS105.drew | apply IsS105.set_1 | apply IsS105.set_2 | refine IsS105.far ?_ NB0_200.out _ | refine IsS105.far ?_ NB0_207.out _) | exact HI0.out))) : g ≠ gb233)) ((by rw [hg]; exact Nat.ne_of_gt (IsS105.lt (show IsS105 w0 _ g s0_0 t219 t220 from by repeat (first | (with_reducible first | exact HI0.out | apply IsS105.alloc | apply IsS105.drewN | apply IsS105.drew | apply IsS105.set_1 | apply IsS105.set_2 | refine IsS105.far ?_ NB0_200.out _ | refine IsS105.far ?_ NB0_207.out _) | exact HI0.out))) : gb233 ≠ g))
              clear HO_208000 HO213 BK200 BK207 HI0 HK HB
              obtain ⟨HO_208000, HO213, BK200, BK207, HI0, HK, HB, BK233, GW233, GE233, NB200_233, NB233_200, NB207_233, NB233_207, NB0_233, NB233_0⟩ := n_
              clear hb hbox hg
              refine hK.out _ _ ((blk_cell BK207.out 0).trans rfl) (fun hHeld => ?_)
              clear hK K
              refine norm_ (a' := ?_) ?_ ?_
              rotate_left
              ·show Act.put _ (some 10) _ = _
               simp only [Act.put, List.setIfInBounds_toArray, List.set_cons_zero, List.set_cons_succ, i64_w, i32_w]
               rfl
              exact norm_ (g45) (hJ4_17 (gb233) _ ⟨hHeld, (g1 HO213.out), (g1 HO_208000.out), (g2 BK200.out), (g2 BK207.out), (g2 BK233.out), GW233.out, GE233.out, NB0_233.out, NB233_0.out, NB200_233.out, NB233_200.out, NB207_233.out, NB233_207.out, (g46 HI0.out NB0_200.out NB0_207.out NB0_233.out), (g47 HK.out GW200.out GW207.out GW233.out), (g48 HB.out HI0.out GE200.out GE207.out GE233.out)⟩)
           ·skip
            rintro gb233 w37 ⟨hS_, h0_, h1_, h2_, h3_, h4_, h5_, h6_, h7_, h8_, h9_, h10_, h11_, h12_, h13_, h14_, h15_⟩
            have n0_ : Aside0 (Kd.R (Kd.int .i64) 3 w37 w.heap.size (fun _ => True) (.slice (some ad217) t211.length co32) t211) := ⟨h0_⟩
            have n1_ : Aside0 (Kd.R k93 93 w37 w.heap.size (fun _ => True) (.slice Ao30 x208000_1.length co30) x208000_1) := ⟨h1_⟩
            have n2_ : Aside0 (w37.heap[gb200]? = some (.cells #[.slice none 0 0] 68 (0, 0))) := ⟨h2_⟩
            have n3_ : Aside0 (w37.heap[gb207]? = some (.cells #[.slice Ao30 x208000_1.length co30] 68 (0, 0))) := ⟨h3_⟩
            have n4_ : Aside0 (w37.heap[gb233]? = some (.cells #[.slice none 0 0] 68 (0, 0))) := ⟨h4_⟩
            have n5_ : Aside0 (w.heap.size ≤ gb233) := ⟨h5_⟩
            have n6_ : Aside0 (w0.heap.size ≤ gb233) := ⟨h6_⟩
            have n7_ : Aside0 (g ≠ gb233) := ⟨h7_⟩
            have n8_ : Aside0 (gb233 ≠ g) := ⟨h8_⟩
            have n9_ : Aside0 (gb200 ≠ gb233) := ⟨h9_⟩
            have n10_ : Aside0 (gb233 ≠ gb200) := ⟨h10_⟩
            have n11_ : Aside0 (gb207 ≠ gb233) := ⟨h11_⟩
            have n12_ : Aside0 (gb233 ≠ gb207) := ⟨h12_⟩
            have n13_ : Aside0 (IsS105 w0 w37 g s0_0 t219 t220) := ⟨h13_⟩
            have n14_ : Aside0 (KeepBut w w37 g none) := ⟨h14_⟩
            have n15_ : Aside0 (Below w0.heap.size w0 w37) := ⟨h15_⟩
            clear HO_208000
            clear HO213
            clear BK200
            clear BK207
            clear HI0
            clear HK
            clear HB
            clear h0_ h1_ h2_ h3_ h4_ h5_ h6_ h7_ h8_ h9_ h10_ h11_ h12_ h13_ h14_ h15_
            have HO213 := n0_
            have HO_208000 := n1_
            have BK200 := n2_
            have BK207 := n3_
            have BK233 := n4_
            have GW233 := n5_
            have GE233 := n6_
            have NB0_233 := n7_
            have NB233_0 := n8_
            have NB200_233 := n9_
            have NB233_200 := n10_
            have NB207_233 := n11_
            have NB233_207 := n12_
            have HI0 := n13_
            have HK := n14_
            have HB := n15_
            clear n0_ n1_ n2_ n3_ n4_ n5_ n6_ n7_ n8_ n9_ n10_ n11_ n12_ n13_ n14_ n15_
            have hHeld : w37.cell? ⟨gb207, 0, none⟩ = some (.slice Ao30 x208000_1.length co30) := hS_
            refine norm_ (a' := ?_) ?_ ?_
            rotate_left
            ·exact ga1
            refine one_ (i := 6) (N := some 38) #[true, true, true, true, true, true, true, false, false, false, true, false, false, true, false, false, false, true, false] rfl rfl (one_of HT_.out (by kernel_rfl)) (by decide) (fun K hK => ?_)
            refine goes_ Try.func101 (by kernel_rfl) rfl #[.pointer (some ⟨g, 0, none⟩), .int .i64 9] (by rfl) rfl rfl (g9) ?_
            with_reducible refine (spec_l1Below.calls g s0_0 t219 t220 9 t221 t222 t223 w0 _ ?side1 ?side2 A21.out).mono ?_
            (case side1 => exact g46 HI0.out NB0_200.out NB0_207.out NB0_233.out)
            (case side2 => exact g48 HB.out HI0.out GE200.out GE207.out GE233.out)
            rintro e w38 ⟨rfl, hi, hb, hk⟩
            refine ⟨_, rfl, ?_⟩
            have n_ := spec_l17Right.K8_ (Kd.R_mono (Kd.R_keep (IsS105.apart (show IsS105 w0 _ g s0_0 t219 t220 from by repeat (first | (with_reducible first | exact HI0.out | apply IsS105.alloc | apply IsS105.drewN | apply IsS105.drew | apply IsS105.set_1 | apply IsS105.set_2 | refine IsS105.far ?_ NB0_200.out _ | refine IsS105.far ?_ NB0_207.out _ | refine IsS105.far ?_ NB0_233.out _) | exact HI0.out)) (g1 HO_208000.out) (by decide)) hk (fun _ h => h.2)) (fun _ h => h.1)) (KeepBut.blk hk (g' := gb200) (o := .cells #[.slice none 0 0] 68 (0, 0)) (g2 BK200.out) NB200_0.out (by simp)) (KeepBut.blk hk (g' := gb207) (o := .cells #[.slice Ao30 x208000_1.length co30] 68 (0, 0)) (g2 BK207.out) NB207_0.out (by simp)) (Kd.R_mono (Kd.R_keep (IsS105.apart (show IsS105 w0 _ g s0_0 t219 t220 from by repeat (first | (with_reducible first | exact HI0.out | apply IsS105.alloc | apply IsS105.drewN | apply IsS105.drew | apply IsS105.set_1 | apply IsS105.set_2 | refine IsS105.far ?_ NB0_200.out _ | refine IsS105.far ?_ NB0_207.out _ | refine IsS105.far ?_ NB0_233.out _) | exact HI0.out)) (g1 HO213.out) (by decide)) hk (fun _ h => h.2)) (fun _ h => h.1)) (KeepBut.blk hk (g' := gb233) (o := .cells #[.slice none 0 0] 68 (0, 0)) (g2 BK233.out) NB233_0.out (by simp)) (KeepBut.trans (g47 HK.out GW200.out GW207.out GW233.out) hk (.inl rfl)) hb hi
            clear HO_208000 BK200 BK207 HO213 BK233 HK HB HI0
            obtain ⟨HO_208000, BK200, BK207, HO213, BK233, HK, HB, HI0⟩ := n_
            (try clear hb)
            (try clear hb2)
            (try clear hk)
            (try clear hi)
            refine hK.out _ _ ((blk_cell BK207.out 0).trans rfl) (fun hHeld => ?_)
            clear hK K
            refine norm_ (a' := ?_) ?_ ?_
            rotate_left
            ·show Act.put _ (some 38) _ = _
             simp only [Act.put, List.setIfInBounds_toArray, List.set_cons_zero, List.set_cons_succ, i64_w, i32_w]
             rfl
            refine pure_ (i := 7) (N := some 39) (v := ?_) (a' := ?_) #[true, true, true, true, true, true, true, true, false, false, true, false, false, true, false, false, false, true, false] rfl rfl (any_of HT_.out (by kernel_rfl)) (fun _ _ _ h => h) (Or.inl ⟨by rfl, ?_⟩) ?_ ?_
            rotate_left
            ·intro w'
             go_simp
             with_reducible rfl
            rotate_left
            ·exact ga0
            refine pure_ (i := 8) (N := some 40) (v := ?_) (a' := ?_) #[true, true, true, true, true, true, true, true, true, false, true, false, false, true, false, false, false, true, false] rfl rfl (any_of HT_.out (by kernel_rfl)) (fun _ _ _ h => h) (Or.inl ⟨by rfl, ?_⟩) ?_ ?_
            rotate_left
            ·intro w'
             go_simp
             with_reducible rfl
            rotate_left
            ·exact ga0
            refine pure_ (i := 9) (N := some 41) (v := ?_) (a' := ?_) spec_l17Right.b6_ rfl rfl (any_of HT_.out (by kernel_rfl)) (fun _ _ _ h => h) (Or.inl ⟨by rfl, ?_⟩) ?_ ?_
            rotate_left
            ·intro w'
             go_simp
             with_reducible rfl
            rotate_left
            ·exact ga0
            exact norm_ (g45) (hJ4_6_17 (gb233) _ ⟨hHeld, (g1 HO213.out), (g1 HO_208000.out), (g2 BK200.out), (g2 BK207.out), (g2 BK233.out), GW233.out, GE233.out, NB0_233.out, NB233_0.out, NB200_233.out, NB233_200.out, NB207_233.out, NB233_207.out, (g46 HI0.out NB0_200.out NB0_207.out NB0_233.out), (g47 HK.out GW200.out GW207.out GW233.out), (g48 HB.out HI0.out GE200.out GE207.out GE233.out)⟩)
          ·skip
           rintro _ w37 ⟨hS_, h0_, h1_, h2_, h3_, h4_, h5_, h6_⟩
           have n0_ : Aside0 (Kd.R (Kd.int .i64) 3 w37 w.heap.size (fun _ => True) (.slice (some ad217) t211.length co32) t211) := ⟨h0_⟩
           have n1_ : Aside0 (Kd.R k93 93 w37 w.heap.size (fun _ => True) (.slice Ao30 x208000_1.length co30) x208000_1) := ⟨h1_⟩
           have n2_ : Aside0 (w37.heap[gb200]? = some (.cells #[.slice none 0 0] 68 (0, 0))) := ⟨h2_⟩
           have n3_ : Aside0 (w37.heap[gb207]? = some (.cells #[.slice Ao30 x208000_1.length co30] 68 (0, 0))) := ⟨h3_⟩
           have n4_ : Aside0 (IsS105 w0 w37 g s0_0 t222 t223) := ⟨h4_⟩
           have n5_ : Aside0 (KeepBut w w37 g none) := ⟨h5_⟩
           have n6_ : Aside0 (Below w0.heap.size w0 w37) := ⟨h6_⟩
           clear HO_208000
           clear HO213
           clear BK200
           clear BK207
           clear HI0
           clear HK
           clear HB
           clear h0_ h1_ h2_ h3_ h4_ h5_ h6_
           have HO213 := n0_
           have HO_208000 := n1_
           have BK200 := n2_
           have BK207 := n3_
           have HI0 := n4_
           have HK := n5_
           have HB := n6_
           clear n0_ n1_ n2_ n3_ n4_ n5_ n6_
           have hHeld : w37.cell? ⟨gb207, 0, none⟩ = some (.slice Ao30 x208000_1.length co30) := hS_
           refine norm_ (a' := ?_) ?_ ?_
           rotate_left
           ·exact ga1
           refine two_ (i := 11) (j := 17) (Ni := some 43) (Nj := some 10) #[true, true, true, true, true, true, true, true, true, true, true, true, false, true, false, false, false, false, false] spec_l17Right.b6_ rfl rfl rfl rfl (two_of HT_.out (by kernel_rfl)) (by decide) (by decide) (fun K hK => ?_) (fun K hK => ?_)
           ·skip
            refine goes_ Try.func101 (by kernel_rfl) rfl #[.pointer (some ⟨g, 0, none⟩), .int .i64 2001] (by rfl) rfl rfl (g9) ?_
            with_reducible refine (spec_l1Below.calls g s0_0 t222 t223 2001 t224 t225 t226 w0 _ ?side1 ?side2 A22.out).mono ?_
            (case side1 => exact g42 HI0.out NB0_200.out NB0_207.out)
            (case side2 => exact g43 HB.out HI0.out GE200.out GE207.out)
            rintro e w38 ⟨rfl, hi, hb, hk⟩
            refine ⟨_, rfl, ?_⟩
            have n_ := spec_l17Right.K7_ (Kd.R_mono (Kd.R_keep (IsS105.apart (show IsS105 w0 _ g s0_0 t222 t223 from by repeat (first | (with_reducible first | exact HI0.out | apply IsS105.alloc | apply IsS105.drewN | apply IsS105.drew | apply IsS105.set_1 | apply IsS105.set_2 | refine IsS105.far ?_ NB0_200.out _ | refine IsS105.far ?_ NB0_207.out _) | exact HI0.out)) (g1 HO_208000.out) (by decide)) hk (fun _ h => h.2)) (fun _ h => h.1)) (KeepBut.blk hk (g' := gb200) (o := .cells #[.slice none 0 0] 68 (0, 0)) (g2 BK200.out) NB200_0.out (by simp)) (KeepBut.blk hk (g' := gb207) (o := .cells #[.slice Ao30 x208000_1.length co30] 68 (0, 0)) (g2 BK207.out) NB207_0.out (by simp)) (Kd.R_mono (Kd.R_keep (IsS105.apart (show IsS105 w0 _ g s0_0 t222 t223 from by repeat (first | (with_reducible first | exact HI0.out | apply IsS105.alloc | apply IsS105.drewN | apply IsS105.drew | apply IsS105.set_1 | apply IsS105.set_2 | refine IsS105.far ?_ NB0_200.out _ | refine IsS105.far ?_ NB0_207.out _) | exact HI0.out)) (g1 HO213.out) (by decide)) hk (fun _ h => h.2)) (fun _ h => h.1)) (KeepBut.trans (g44 HK.out GW200.out GW207.out) hk (.inl rfl)) hb hi
            clear HO_208000 BK200 BK207 HO213 HK HB HI0
            obtain ⟨HO_208000, BK200, BK207, HO213, HK, HB, HI0⟩ := n_
            (try clear hb)
            (try clear hb2)
            (try clear hk)
            (try clear hi)
            refine hK.out _ _ ((blk_cell BK207.out 0).trans rfl) (fun hHeld => ?_)
            clear hK K
            refine norm_ (a' := ?_) ?_ ?_
            rotate_left
            ·show Act.put _ (some 43) _ = _
             simp only [Act.put, List.setIfInBounds_toArray, List.set_cons_zero, List.set_cons_succ, i64_w, i32_w]
             rfl
            refine pure_ (i := 12) (N := some 44) (v := ?_) (a' := ?_) spec_l17Right.b5_ rfl rfl (any_of HT_.out (by kernel_rfl)) (fun _ _ _ h => h) (Or.inl ⟨by rfl, ?_⟩) ?_ ?_
            rotate_left
            ·intro w'
             go_simp
             with_reducible rfl
            rotate_left
            ·exact ga0
            exact norm_ (g45) (hJ4_6_11 () _ ⟨hHeld, (g1 HO213.out), (g1 HO_208000.out), (g2 BK200.out), (g2 BK207.out), (g42 HI0.out NB0_200.out NB0_207.out), (g44 HK.out GW200.out GW207.out), (g43 HB.out HI0.out GE200.out GE207.out)⟩)
           ·skip
            refine box_step ?hg (N := 10) ?hd (cs := #[.slice none 0 0]) (t := 68) ?hr ?_; (case hd => rfl); (case hg => rfl); (case hr => exact g10)
            intro gb233 hg w38 hbox hb
            have n_ := spec_l17Right.K16_ (Kd.R_below (g1 HO_208000.out) hb) (Kd.R_below (g1 HO213.out) hb) (blk_below (g := gb200) (o := .cells #[.slice none 0 0] 68 (0, 0)) (g2 BK200.out) hb) (blk_below (g := gb207) (o := .cells #[.slice Ao30 x208000_1.length co30] 68 (0, 0)) (g2 BK207.out) hb) (IsS105.below (g42 HI0.out NB0_200.out NB0_207.out) hb) (KeepBut.trans (g44 HK.out GW200.out GW207.out) (KeepBut.of_below hb g none) (.inl rfl)) (below_step (g43 HB.out HI0.out GE200.out GE207.out) hb) hbox ((spec_l17Right.z2 : w.heap.size ≤ gb233)) ((Nat.le_trans HW0.out (spec_l17Right.z2 : w.heap.size ≤ gb233) : w0.heap.size ≤ gb233)) ((spec_l17Right.z0 : gb200 ≠ gb233)) ((spec_l17Right.z1 : gb233 ≠ gb200)) ((spec_l17Right.z3 : gb207 ≠ gb233)) ((spec_l17Right.z4 : gb233 ≠ gb207)) ((by rw [hg]; exact Nat.ne_of_lt (IsS105.lt (show IsS105 w0 _ g s0_0 t222 t223 from by repeat (first | (with_reducible first | exact HI0.out | apply IsS105.alloc | apply IsS105.drewN | apply IsS105.drew | apply IsS105.set_1 | apply IsS105.set_2 | refine IsS105.far ?_ NB0_200.out _ | refine IsS105.far ?_ NB0_207.out _) | exact HI0.out))) : g ≠ gb233)) ((by rw [hg]; exact Nat.ne_of_gt (IsS105.lt (show IsS105 w0 _ g s0_0 t222 t223 from by repeat (first | (with_reducible first | exact HI0.out | apply IsS105.alloc | apply IsS105.drewN | apply IsS105.drew | apply IsS105.set_1 | apply IsS105.set_2 | refine IsS105.far ?_ NB0_200.out _ | refine IsS105.far ?_ NB0_207.out _) | exact HI0.out))) : gb233 ≠ g))
            clear HO_208000 HO213 BK200 BK207 HI0 HK HB
            obtain ⟨HO_208000, HO213, BK200, BK207, HI0, HK, HB, BK233, GW233, GE233, NB200_233, NB233_200, NB207_233, NB233_207, NB0_233, NB233_0⟩ := n_
            clear hb hbox hg
            refine hK.out _ _ ((blk_cell BK207.out 0).trans rfl) (fun hHeld => ?_)
            clear hK K
            refine norm_ (a' := ?_) ?_ ?_
            rotate_left
            ·show Act.put _ (some 10) _ = _
             simp only [Act.put, List.setIfInBounds_toArray, List.set_cons_zero, List.set_cons_succ, i64_w, i32_w]
             rfl
            exact norm_ (g45) (hJ4_6_17 (gb233) _ ⟨hHeld, (g1 HO213.out), (g1 HO_208000.out), (g2 BK200.out), (g2 BK207.out), (g2 BK233.out), GW233.out, GE233.out, NB0_233.out, NB233_0.out, NB200_233.out, NB233_200.out, NB207_233.out, NB233_207.out, (g46 HI0.out NB0_200.out NB0_207.out NB0_233.out), (g47 HK.out GW200.out GW207.out GW233.out), (g48 HB.out HI0.out GE200.out GE207.out GE233.out)⟩)
         ·skip
          rintro gb233 w38 ⟨hS_, h0_, h1_, h2_, h3_, h4_, h5_, h6_, h7_, h8_, h9_, h10_, h11_, h12_, h13_, h14_, h15_⟩
          have n0_ : Aside0 (Kd.R (Kd.int .i64) 3 w38 w.heap.size (fun _ => True) (.slice (some ad217) t211.length co32) t211) := ⟨h0_⟩
          have n1_ : Aside0 (Kd.R k93 93 w38 w.heap.size (fun _ => True) (.slice Ao30 x208000_1.length co30) x208000_1) := ⟨h1_⟩
          have n2_ : Aside0 (w38.heap[gb200]? = some (.cells #[.slice none 0 0] 68 (0, 0))) := ⟨h2_⟩
          have n3_ : Aside0 (w38.heap[gb207]? = some (.cells #[.slice Ao30 x208000_1.length co30] 68 (0, 0))) := ⟨h3_⟩
          have n4_ : Aside0 (w38.heap[gb233]? = some (.cells #[.slice none 0 0] 68 (0, 0))) := ⟨h4_⟩
          have n5_ : Aside0 (w.heap.size ≤ gb233) := ⟨h5_⟩
          have n6_ : Aside0 (w0.heap.size ≤ gb233) := ⟨h6_⟩
          have n7_ : Aside0 (g ≠ gb233) := ⟨h7_⟩
          have n8_ : Aside0 (gb233 ≠ g) := ⟨h8_⟩
          have n9_ : Aside0 (gb200 ≠ gb233) := ⟨h9_⟩
          have n10_ : Aside0 (gb233 ≠ gb200) := ⟨h10_⟩
          have n11_ : Aside0 (gb207 ≠ gb233) := ⟨h11_⟩
          have n12_ : Aside0 (gb233 ≠ gb207) := ⟨h12_⟩
          have n13_ : Aside0 (IsS105 w0 w38 g s0_0 t222 t223) := ⟨h13_⟩
          have n14_ : Aside0 (KeepBut w w38 g none) := ⟨h14_⟩
          have n15_ : Aside0 (Below w0.heap.size w0 w38) := ⟨h15_⟩
          clear HO_208000
          clear HO213
          clear BK200
          clear BK207
          clear HI0
          clear HK
          clear HB
          clear h0_ h1_ h2_ h3_ h4_ h5_ h6_ h7_ h8_ h9_ h10_ h11_ h12_ h13_ h14_ h15_
          have HO213 := n0_
          have HO_208000 := n1_
          have BK200 := n2_
          have BK207 := n3_
          have BK233 := n4_
          have GW233 := n5_
          have GE233 := n6_
          have NB0_233 := n7_
          have NB233_0 := n8_
          have NB200_233 := n9_
          have NB233_200 := n10_
          have NB207_233 := n11_
          have NB233_207 := n12_
          have HI0 := n13_
          have HK := n14_
          have HB := n15_
          clear n0_ n1_ n2_ n3_ n4_ n5_ n6_ n7_ n8_ n9_ n10_ n11_ n12_ n13_ n14_ n15_
          have hHeld : w38.cell? ⟨gb207, 0, none⟩ = some (.slice Ao30 x208000_1.length co30) := hS_
          refine norm_ (a' := ?_) ?_ ?_
          rotate_left
          ·exact ga1
          refine one_ (i := 11) (N := some 43) #[true, true, true, true, true, true, true, true, true, true, true, true, false, true, false, false, false, true, false] rfl rfl (one_of HT_.out (by kernel_rfl)) (by decide) (fun K hK => ?_)
          refine goes_ Try.func101 (by kernel_rfl) rfl #[.pointer (some ⟨g, 0, none⟩), .int .i64 2001] (by rfl) rfl rfl (g9) ?_
          with_reducible refine (spec_l1Below.calls g s0_0 t222 t223 2001 t224 t225 t226 w0 _ ?side1 ?side2 A22.out).mono ?_
          (case side1 => exact g46 HI0.out NB0_200.out NB0_207.out NB0_233.out)
          (case side2 => exact g48 HB.out HI0.out GE200.out GE207.out GE233.out)
          rintro e w39 ⟨rfl, hi, hb, hk⟩
          refine ⟨_, rfl, ?_⟩
          have n_ := spec_l17Right.K8_ (Kd.R_mono (Kd.R_keep (IsS105.apart (show IsS105 w0 _ g s0_0 t222 t223 from by repeat (first | (with_reducible first | exact HI0.out | apply IsS105.alloc | apply IsS105.drewN | apply IsS105.drew | apply IsS105.set_1 | apply IsS105.set_2 | refine IsS105.far ?_ NB0_200.out _ | refine IsS105.far ?_ NB0_207.out _ | refine IsS105.far ?_ NB0_233.out _) | exact HI0.out)) (g1 HO_208000.out) (by decide)) hk (fun _ h => h.2)) (fun _ h => h.1)) (KeepBut.blk hk (g' := gb200) (o := .cells #[.slice none 0 0] 68 (0, 0)) (g2 BK200.out) NB200_0.out (by simp)) (KeepBut.blk hk (g' := gb207) (o := .cells #[.slice Ao30 x208000_1.length co30] 68 (0, 0)) (g2 BK207.out) NB207_0.out (by simp)) (Kd.R_mono (Kd.R_keep (IsS105.apart (show IsS105 w0 _ g s0_0 t222 t223 from by repeat (first | (with_reducible first | exact HI0.out | apply IsS105.alloc | apply IsS105.drewN | apply IsS105.drew | apply IsS105.set_1 | apply IsS105.set_2 | refine IsS105.far ?_ NB0_200.out _ | refine IsS105.far ?_ NB0_207.out _ | refine IsS105.far ?_ NB0_233.out _) | exact HI0.out)) (g1 HO213.out) (by decide)) hk (fun _ h => h.2)) (fun _ h => h.1)) (KeepBut.blk hk (g' := gb233) (o := .cells #[.slice none 0 0] 68 (0, 0)) (g2 BK233.out) NB233_0.out (by simp)) (KeepBut.trans (g47 HK.out GW200.out GW207.out GW233.out) hk (.inl rfl)) hb hi
          clear HO_208000 BK200 BK207 HO213 BK233 HK HB HI0
          obtain ⟨HO_208000, BK200, BK207, HO213, BK233, HK, HB, HI0⟩ := n_
          (try clear hb)
          (try clear hb2)
          (try clear hk)
          (try clear hi)
          refine hK.out _ _ ((blk_cell BK207.out 0).trans rfl) (fun hHeld => ?_)
          clear hK K
          refine norm_ (a' := ?_) ?_ ?_
          rotate_left
          ·show Act.put _ (some 43) _ = _
           simp only [Act.put, List.setIfInBounds_toArray, List.set_cons_zero, List.set_cons_succ, i64_w, i32_w]
           rfl
          refine pure_ (i := 12) (N := some 44) (v := ?_) (a' := ?_) spec_l17Right.b4_ rfl rfl (any_of HT_.out (by kernel_rfl)) (fun _ _ _ h => h) (Or.inl ⟨by rfl, ?_⟩) ?_ ?_
          rotate_left
          ·intro w'
           go_simp
           with_reducible rfl
          rotate_left
          ·exact ga0
          exact norm_ (g45) (hJ4_6_11_17 (gb233) _ ⟨hHeld, (g1 HO213.out), (g1 HO_208000.out), (g2 BK200.out), (g2 BK207.out), (g2 BK233.out), GW233.out, GE233.out, NB0_233.out, NB233_0.out, NB200_233.out, NB233_200.out, NB207_233.out, NB233_207.out, (g46 HI0.out NB0_200.out NB0_207.out NB0_233.out), (g47 HK.out GW200.out GW207.out GW233.out), (g48 HB.out HI0.out GE200.out GE207.out GE233.out)⟩)
        ·skip
         rintro _ w38 ⟨hS_, h0_, h1_, h2_, h3_, h4_, h5_, h6_⟩
         have n0_ : Aside0 (Kd.R (Kd.int .i64) 3 w38 w.heap.size (fun _ => True) (.slice (some ad217) t211.length co32) t211) := ⟨h0_⟩
         have n1_ : Aside0 (Kd.R k93 93 w38 w.heap.size (fun _ => True) (.slice Ao30 x208000_1.length co30) x208000_1) := ⟨h1_⟩
         have n2_ : Aside0 (w38.heap[gb200]? = some (.cells #[.slice none 0 0] 68 (0, 0))) := ⟨h2_⟩
         have n3_ : Aside0 (w38.heap[gb207]? = some (.cells #[.slice Ao30 x208000_1.length co30] 68 (0, 0))) := ⟨h3_⟩
         have n4_ : Aside0 (IsS105 w0 w38 g s0_0 t225 t226) := ⟨h4_⟩
         have n5_ : Aside0 (KeepBut w w38 g none) := ⟨h5_⟩
         have n6_ : Aside0 (Below w0.heap.size w0 w38) := ⟨h6_⟩
         clear HO_208000
         clear HO213
         clear BK200
         clear BK207
         clear HI0
         clear HK
         clear HB
         clear h0_ h1_ h2_ h3_ h4_ h5_ h6_
         have HO213 := n0_
         have HO_208000 := n1_
         have BK200 := n2_
         have BK207 := n3_
         have HI0 := n4_
         have HK := n5_
         have HB := n6_
         clear n0_ n1_ n2_ n3_ n4_ n5_ n6_
         have hHeld : w38.cell? ⟨gb207, 0, none⟩ = some (.slice Ao30 x208000_1.length co30) := hS_
         refine norm_ (a' := ?_) ?_ ?_
         rotate_left
         ·exact ga1
         refine two_ (i := 14) (j := 17) (Ni := some 46) (Nj := some 10) #[true, true, true, true, true, true, true, true, true, true, true, true, true, true, true, false, false, false, false] spec_l17Right.b4_ rfl rfl rfl rfl (two_of HT_.out (by kernel_rfl)) (by decide) (by decide) (fun K hK => ?_) (fun K hK => ?_)
         ·skip
          refine goes_ Try.func101 (by kernel_rfl) rfl #[.pointer (some ⟨g, 0, none⟩), .int .i64 2001] (by rfl) rfl rfl (g9) ?_
          with_reducible refine (spec_l1Below.calls g s0_0 t225 t226 2001 t227 t228 t229 w0 _ ?side1 ?side2 A23.out).mono ?_
          (case side1 => exact g42 HI0.out NB0_200.out NB0_207.out)
          (case side2 => exact g43 HB.out HI0.out GE200.out GE207.out)
          rintro e w39 ⟨rfl, hi, hb, hk⟩
          refine ⟨_, rfl, ?_⟩
          have n_ := spec_l17Right.K7_ (Kd.R_mono (Kd.R_keep (IsS105.apart (show IsS105 w0 _ g s0_0 t225 t226 from by repeat (first | (with_reducible first | exact HI0.out | apply IsS105.alloc | apply IsS105.drewN | apply IsS105.drew | apply IsS105.set_1 | apply IsS105.set_2 | refine IsS105.far ?_ NB0_200.out _ | refine IsS105.far ?_ NB0_207.out _) | exact HI0.out)) (g1 HO_208000.out) (by decide)) hk (fun _ h => h.2)) (fun _ h => h.1)) (KeepBut.blk hk (g' := gb200) (o := .cells #[.slice none 0 0] 68 (0, 0)) (g2 BK200.out) NB200_0.out (by simp)) (KeepBut.blk hk (g' := gb207) (o := .cells #[.slice Ao30 x208000_1.length co30] 68 (0, 0)) (g2 BK207.out) NB207_0.out (by simp)) (Kd.R_mono (Kd.R_keep (IsS105.apart (show IsS105 w0 _ g s0_0 t225 t226 from by repeat (first | (with_reducible first | exact HI0.out | apply IsS105.alloc | apply IsS105.drewN | apply IsS105.drew | apply IsS105.set_1 | apply IsS105.set_2 | refine IsS105.far ?_ NB0_200.out _ | refine IsS105.far ?_ NB0_207.out _) | exact HI0.out)) (g1 HO213.out) (by decide)) hk (fun _ h => h.2)) (fun _ h => h.1)) (KeepBut.trans (g44 HK.out GW200.out GW207.out) hk (.inl rfl)) hb hi
          clear HO_208000 BK200 BK207 HO213 HK HB HI0
          obtain ⟨HO_208000, BK200, BK207, HO213, HK, HB, HI0⟩ := n_
          (try clear hb)
          (try clear hb2)
          (try clear hk)
          (try clear hi)
          refine hK.out _ _ ((blk_cell BK207.out 0).trans rfl) (fun hHeld => ?_)
          clear hK K
          refine norm_ (a' := ?_) ?_ ?_
          rotate_left
          ·show Act.put _ (some 46) _ = _
           simp only [Act.put, List.setIfInBounds_toArray, List.set_cons_zero, List.set_cons_succ, i64_w, i32_w]
           rfl
          refine pure_ (i := 15) (N := some 47) (v := ?_) (a' := ?_) spec_l17Right.b3_ rfl rfl (any_of HT_.out (by kernel_rfl)) (fun _ _ _ h => h) (Or.inl ⟨by rfl, ?_⟩) ?_ ?_
          rotate_left
          ·intro w'
           go_simp
           with_reducible rfl
          rotate_left
          ·exact ga0
          exact norm_ (g45) (hJ4_6_11_14 () _ ⟨hHeld, (g1 HO213.out), (g1 HO_208000.out), (g2 BK200.out), (g2 BK207.out), (g42 HI0.out NB0_200.out NB0_207.out), (g44 HK.out GW200.out GW207.out), (g43 HB.out HI0.out GE200.out GE207.out)⟩)
         ·skip
          refine box_step ?hg (N := 10) ?hd (cs := #[.slice none 0 0]) (t := 68) ?hr ?_; (case hd => rfl); (case hg => rfl); (case hr => exact g10)
          intro gb233 hg w39 hbox hb
          have n_ := spec_l17Right.K16_ (Kd.R_below (g1 HO_208000.out) hb) (Kd.R_below (g1 HO213.out) hb) (blk_below (g := gb200) (o := .cells #[.slice none 0 0] 68 (0, 0)) (g2 BK200.out) hb) (blk_below (g := gb207) (o := .cells #[.slice Ao30 x208000_1.length co30] 68 (0, 0)) (g2 BK207.out) hb) (IsS105.below (g42 HI0.out NB0_200.out NB0_207.out) hb) (KeepBut.trans (g44 HK.out GW200.out GW207.out) (KeepBut.of_below hb g none) (.inl rfl)) (below_step (g43 HB.out HI0.out GE200.out GE207.out) hb) hbox ((spec_l17Right.z2 : w.heap.size ≤ gb233)) ((Nat.le_trans HW0.out (spec_l17Right.z2 : w.heap.size ≤ gb233) : w0.heap.size ≤ gb233)) ((spec_l17Right.z0 : gb200 ≠ gb233)) ((spec_l17Right.z1 : gb233 ≠ gb200)) ((spec_l17Right.z3 : gb207 ≠ gb233)) ((spec_l17Right.z4 : gb233 ≠ gb207)) ((by rw [hg]; exact Nat.ne_of_lt (IsS105.lt (show IsS105 w0 _ g s0_0 t225 t226 from by repeat (first | (with_reducible first | exact HI0.out | apply IsS105.alloc | apply IsS105.drewN | apply IsS105.drew | apply IsS105.set_1 | apply IsS105.set_2 | refine IsS105.far ?_ NB0_200.out _ | refine IsS105.far ?_ NB0_207.out _) | exact HI0.out))) : g ≠ gb233)) ((by rw [hg]; exact Nat.ne_of_gt (IsS105.lt (show IsS105 w0 _ g s0_0 t225 t226 from by repeat (first | (with_reducible first | exact HI0.out | apply IsS105.alloc | apply IsS105.drewN | apply IsS105.drew | apply IsS105.set_1 | apply IsS105.set_2 | refine IsS105.far ?_ NB0_200.out _ | refine IsS105.far ?_ NB0_207.out _) | exact HI0.out))) : gb233 ≠ g))
          clear HO_208000 HO213 BK200 BK207 HI0 HK HB
          obtain ⟨HO_208000, HO213, BK200, BK207, HI0, HK, HB, BK233, GW233, GE233, NB200_233, NB233_200, NB207_233, NB233_207, NB0_233, NB233_0⟩ := n_
          clear hb hbox hg
          refine hK.out _ _ ((blk_cell BK207.out 0).trans rfl) (fun hHeld => ?_)
          clear hK K
          refine norm_ (a' := ?_) ?_ ?_
          rotate_left
          ·show Act.put _ (some 10) _ = _
           simp only [Act.put, List.setIfInBounds_toArray, List.set_cons_zero, List.set_cons_succ, i64_w, i32_w]
           rfl
          exact norm_ (g45) (hJ4_6_11_17 (gb233) _ ⟨hHeld, (g1 HO213.out), (g1 HO_208000.out), (g2 BK200.out), (g2 BK207.out), (g2 BK233.out), GW233.out, GE233.out, NB0_233.out, NB233_0.out, NB200_233.out, NB233_200.out, NB207_233.out, NB233_207.out, (g46 HI0.out NB0_200.out NB0_207.out NB0_233.out), (g47 HK.out GW200.out GW207.out GW233.out), (g48 HB.out HI0.out GE200.out GE207.out GE233.out)⟩)
       ·skip
        rintro gb233 w39 ⟨hS_, h0_, h1_, h2_, h3_, h4_, h5_, h6_, h7_, h8_, h9_, h10_, h11_, h12_, h13_, h14_, h15_⟩
        have n0_ : Aside0 (Kd.R (Kd.int .i64) 3 w39 w.heap.size (fun _ => True) (.slice (some ad217) t211.length co32) t211) := ⟨h0_⟩
        have n1_ : Aside0 (Kd.R k93 93 w39 w.heap.size (fun _ => True) (.slice Ao30 x208000_1.length co30) x208000_1) := ⟨h1_⟩
        have n2_ : Aside0 (w39.heap[gb200]? = some (.cells #[.slice none 0 0] 68 (0, 0))) := ⟨h2_⟩
        have n3_ : Aside0 (w39.heap[gb207]? = some (.cells #[.slice Ao30 x208000_1.length co30] 68 (0, 0))) := ⟨h3_⟩
        have n4_ : Aside0 (w39.heap[gb233]? = some (.cells #[.slice none 0 0] 68 (0, 0))) := ⟨h4_⟩
        have n5_ : Aside0 (w.heap.size ≤ gb233) := ⟨h5_⟩
        have n6_ : Aside0 (w0.heap.size ≤ gb233) := ⟨h6_⟩
        have n7_ : Aside0 (g ≠ gb233) := ⟨h7_⟩
        have n8_ : Aside0 (gb233 ≠ g) := ⟨h8_⟩
        have n9_ : Aside0 (gb200 ≠ gb233) := ⟨h9_⟩
        have n10_ : Aside0 (gb233 ≠ gb200) := ⟨h10_⟩
        have n11_ : Aside0 (gb207 ≠ gb233) := ⟨h11_⟩
        have n12_ : Aside0 (gb233 ≠ gb207) := ⟨h12_⟩
        have n13_ : Aside0 (IsS105 w0 w39 g s0_0 t225 t226) := ⟨h13_⟩
        have n14_ : Aside0 (KeepBut w w39 g none) := ⟨h14_⟩
        have n15_ : Aside0 (Below w0.heap.size w0 w39) := ⟨h15_⟩
        clear HO_208000
        clear HO213
        clear BK200
        clear BK207
        clear HI0
        clear HK
        clear HB
        clear h0_ h1_ h2_ h3_ h4_ h5_ h6_ h7_ h8_ h9_ h10_ h11_ h12_ h13_ h14_ h15_
        have HO213 := n0_
        have HO_208000 := n1_
        have BK200 := n2_
        have BK207 := n3_
        have BK233 := n4_
        have GW233 := n5_
        have GE233 := n6_
        have NB0_233 := n7_
        have NB233_0 := n8_
        have NB200_233 := n9_
        have NB233_200 := n10_
        have NB207_233 := n11_
        have NB233_207 := n12_
        have HI0 := n13_
        have HK := n14_
        have HB := n15_
        clear n0_ n1_ n2_ n3_ n4_ n5_ n6_ n7_ n8_ n9_ n10_ n11_ n12_ n13_ n14_ n15_
        have hHeld : w39.cell? ⟨gb207, 0, none⟩ = some (.slice Ao30 x208000_1.length co30) := hS_
        refine norm_ (a' := ?_) ?_ ?_
        rotate_left
        ·exact ga1
        refine one_ (i := 14) (N := some 46) #[true, true, true, true, true, true, true, true, true, true, true, true, true, true, true, false, false, true, false] rfl rfl (one_of HT_.out (by kernel_rfl)) (by decide) (fun K hK => ?_)
        refine goes_ Try.func101 (by kernel_rfl) rfl #[.pointer (some ⟨g, 0, none⟩), .int .i64 2001] (by rfl) rfl rfl (g9) ?_
        with_reducible refine (spec_l1Below.calls g s0_0 t225 t226 2001 t227 t228 t229 w0 _ ?side1 ?side2 A23.out).mono ?_
        (case side1 => exact g46 HI0.out NB0_200.out NB0_207.out NB0_233.out)
        (case side2 => exact g48 HB.out HI0.out GE200.out GE207.out GE233.out)
        rintro e w40 ⟨rfl, hi, hb, hk⟩
        refine ⟨_, rfl, ?_⟩
        have n_ := spec_l17Right.K8_ (Kd.R_mono (Kd.R_keep (IsS105.apart (show IsS105 w0 _ g s0_0 t225 t226 from by repeat (first | (with_reducible first | exact HI0.out | apply IsS105.alloc | apply IsS105.drewN | apply IsS105.drew | apply IsS105.set_1 | apply IsS105.set_2 | refine IsS105.far ?_ NB0_200.out _ | refine IsS105.far ?_ NB0_207.out _ | refine IsS105.far ?_ NB0_233.out _) | exact HI0.out)) (g1 HO_208000.out) (by decide)) hk (fun _ h => h.2)) (fun _ h => h.1)) (KeepBut.blk hk (g' := gb200) (o := .cells #[.slice none 0 0] 68 (0, 0)) (g2 BK200.out) NB200_0.out (by simp)) (KeepBut.blk hk (g' := gb207) (o := .cells #[.slice Ao30 x208000_1.length co30] 68 (0, 0)) (g2 BK207.out) NB207_0.out (by simp)) (Kd.R_mono (Kd.R_keep (IsS105.apart (show IsS105 w0 _ g s0_0 t225 t226 from by repeat (first | (with_reducible first | exact HI0.out | apply IsS105.alloc | apply IsS105.drewN | apply IsS105.drew | apply IsS105.set_1 | apply IsS105.set_2 | refine IsS105.far ?_ NB0_200.out _ | refine IsS105.far ?_ NB0_207.out _ | refine IsS105.far ?_ NB0_233.out _) | exact HI0.out)) (g1 HO213.out) (by decide)) hk (fun _ h => h.2)) (fun _ h => h.1)) (KeepBut.blk hk (g' := gb233) (o := .cells #[.slice none 0 0] 68 (0, 0)) (g2 BK233.out) NB233_0.out (by simp)) (KeepBut.trans (g47 HK.out GW200.out GW207.out GW233.out) hk (.inl rfl)) hb hi
        clear HO_208000 BK200 BK207 HO213 BK233 HK HB HI0
        obtain ⟨HO_208000, BK200, BK207, HO213, BK233, HK, HB, HI0⟩ := n_
        (try clear hb)
        (try clear hb2)
        (try clear hk)
        (try clear hi)
        refine hK.out _ _ ((blk_cell BK207.out 0).trans rfl) (fun hHeld => ?_)
        clear hK K
        refine norm_ (a' := ?_) ?_ ?_
        rotate_left
        ·show Act.put _ (some 46) _ = _
         simp only [Act.put, List.setIfInBounds_toArray, List.set_cons_zero, List.set_cons_succ, i64_w, i32_w]
         rfl
        refine pure_ (i := 15) (N := some 47) (v := ?_) (a' := ?_) spec_l17Right.b2_ rfl rfl (any_of HT_.out (by kernel_rfl)) (fun _ _ _ h => h) (Or.inl ⟨by rfl, ?_⟩) ?_ ?_
        rotate_left
        ·intro w'
         go_simp
         with_reducible rfl
        rotate_left
        ·exact ga0
        exact norm_ (g45) (hJ4_6_11_14_17 (gb233) _ ⟨hHeld, (g1 HO213.out), (g1 HO_208000.out), (g2 BK200.out), (g2 BK207.out), (g2 BK233.out), GW233.out, GE233.out, NB0_233.out, NB233_0.out, NB200_233.out, NB233_200.out, NB207_233.out, NB233_207.out, (g46 HI0.out NB0_200.out NB0_207.out NB0_233.out), (g47 HK.out GW200.out GW207.out GW233.out), (g48 HB.out HI0.out GE200.out GE207.out GE233.out)⟩)
      ·skip
       rintro _ w39 ⟨hS_, h0_, h1_, h2_, h3_, h4_, h5_, h6_⟩
       have n0_ : Aside0 (Kd.R (Kd.int .i64) 3 w39 w.heap.size (fun _ => True) (.slice (some ad217) t211.length co32) t211) := ⟨h0_⟩
       have n1_ : Aside0 (Kd.R k93 93 w39 w.heap.size (fun _ => True) (.slice Ao30 x208000_1.length co30) x208000_1) := ⟨h1_⟩
       have n2_ : Aside0 (w39.heap[gb200]? = some (.cells #[.slice none 0 0] 68 (0, 0))) := ⟨h2_⟩
       have n3_ : Aside0 (w39.heap[gb207]? = some (.cells #[.slice Ao30 x208000_1.length co30] 68 (0, 0))) := ⟨h3_⟩
       have n4_ : Aside0 (IsS105 w0 w39 g s0_0 t228 t229) := ⟨h4_⟩
       have n5_ : Aside0 (KeepBut w w39 g none) := ⟨h5_⟩
       have n6_ : Aside0 (Below w0.heap.size w0 w39) := ⟨h6_⟩
       clear HO_208000
       clear HO213
       clear BK200
       clear BK207
       clear HI0
       clear HK
       clear HB
       clear h0_ h1_ h2_ h3_ h4_ h5_ h6_
       have HO213 := n0_
       have HO_208000 := n1_
       have BK200 := n2_
       have BK207 := n3_
       have HI0 := n4_
       have HK := n5_
       have HB := n6_
       clear n0_ n1_ n2_ n3_ n4_ n5_ n6_
       have hHeld : w39.cell? ⟨gb207, 0, none⟩ = some (.slice Ao30 x208000_1.length co30) := hS_
       refine norm_ (a' := ?_) ?_ ?_
       rotate_left
       ·exact ga1
       refine two_ (i := 16) (j := 17) (Ni := some 48) (Nj := some 10) spec_l17Right.b1_ spec_l17Right.b2_ rfl rfl rfl rfl (two_of HT_.out (by kernel_rfl)) (by decide) (by decide) (fun K hK => ?_) (fun K hK => ?_)
       ·skip
        refine goes_ Try.func163 (by kernel_rfl) rfl #[.agg #[.slice Ao30 x208000_1.length co30], .int .i64 (rd t211 t214), .agg #[.int .i64 t218, .int .i64 (wrap64 (500 * (wrap64 (t221 - 4)))), .int .i64 0, .int .i64 0, .int .i64 0], .int .i64 (wrap64 (t224 - 1000)), .int .i64 (wrap64 (t227 - 1000))] (by rfl) rfl rfl (g9) ?_
        with_reducible refine (spec_l17Grown.calls k1 _ _ x208000_1 (rd t211 t214) t218 (wrap64 (500 * (wrap64 (t221 - 4)))) 0 0 0 (wrap64 (t224 - 1000)) (wrap64 (t227 - 1000)) t230 _ ?side1 ?side2 A24.out).mono ?_
        (case side1 => exact g26 HO_208000.out)
        (case side2 => exact (Kd.R_reads' HO_208000.out).2.1)
        rintro e w40 ⟨v231, rfl, ho0, hb⟩
        refine ⟨_, rfl, ?_⟩
        have n_ := spec_l17Right.K8_ (Kd.R_elder' (g1 HO_208000.out) (Kd.R_base ho0) hb) (Kd.R_below (g1 HO213.out) hb) (Kd.R_lower (Kd.R_new' ho0 (Kd.R_lt (g1 HO_208000.out))) (keep_size (w := w) (g := g) (row := none) (g44 HK.out GW200.out GW207.out))) (blk_below (g := gb200) (o := .cells #[.slice none 0 0] 68 (0, 0)) (g2 BK200.out) hb) (blk_below (g := gb207) (o := .cells #[.slice Ao30 x208000_1.length co30] 68 (0, 0)) (g2 BK207.out) hb) (IsS105.below (g42 HI0.out NB0_200.out NB0_207.out) hb) (KeepBut.trans (g44 HK.out GW200.out GW207.out) (KeepBut.of_below hb g none) (.inl rfl)) (below_step (g43 HB.out HI0.out GE200.out GE207.out) hb)
        clear HO_208000 HO213 BK200 BK207 HI0 HK HB
        obtain ⟨HO_208000, HO213, HO232, BK200, BK207, HI0, HK, HB⟩ := n_
        (try clear hb)
        (try clear hb2)
        (try clear hk)
        (try clear hi)
        (try clear ho0)
        refine hK.out _ _ ((blk_cell BK207.out 0).trans rfl) (fun hHeld => ?_)
        clear hK K
        refine norm_ (a' := ?_) ?_ ?_
        rotate_left
        ·show Act.put _ (some 48) _ = _
         simp only [Act.put, List.setIfInBounds_toArray, List.set_cons_zero, List.set_cons_succ, i64_w, i32_w]
         rfl
        exact norm_ (g45) (hJ4_6_11_14_16 (v231) _ ⟨hHeld, (g1 HO213.out), spec_l17Right.z5, spec_l17Right.z6, (g2 BK200.out), (g2 BK207.out), (g42 HI0.out NB0_200.out NB0_207.out), (g44 HK.out GW200.out GW207.out), (g43 HB.out HI0.out GE200.out GE207.out)⟩)
       ·skip
        refine box_step ?hg (N := 10) ?hd (cs := #[.slice none 0 0]) (t := 68) ?hr ?_; (case hd => rfl); (case hg => rfl); (case hr => exact g10)
        intro gb233 hg w40 hbox hb
        have n_ := spec_l17Right.K16_ (Kd.R_below (g1 HO_208000.out) hb) (Kd.R_below (g1 HO213.out) hb) (blk_below (g := gb200) (o := .cells #[.slice none 0 0] 68 (0, 0)) (g2 BK200.out) hb) (blk_below (g := gb207) (o := .cells #[.slice Ao30 x208000_1.length co30] 68 (0, 0)) (g2 BK207.out) hb) (IsS105.below (g42 HI0.out NB0_200.out NB0_207.out) hb) (KeepBut.trans (g44 HK.out GW200.out GW207.out) (KeepBut.of_below hb g none) (.inl rfl)) (below_step (g43 HB.out HI0.out GE200.out GE207.out) hb) hbox ((spec_l17Right.z2 : w.heap.size ≤ gb233)) ((Nat.le_trans HW0.out (spec_l17Right.z2 : w.heap.size ≤ gb233) : w0.heap.size ≤ gb233)) ((spec_l17Right.z0 : gb200 ≠ gb233)) ((spec_l17Right.z1 : gb233 ≠ gb200)) ((spec_l17Right.z3 : gb207 ≠ gb233)) ((spec_l17Right.z4 : gb233 ≠ gb207)) ((by rw [hg]; exact Nat.ne_of_lt (IsS105.lt (show IsS105 w0 _ g s0_0 t228 t229 from by repeat (first | (with_reducible first | exact HI0.out | apply IsS105.alloc | apply IsS105.drewN | apply IsS105.drew | apply IsS105.set_1 | apply IsS105.set_2 | refine IsS105.far ?_ NB0_200.out _ | refine IsS105.far ?_ NB0_207.out _) | exact HI0.out))) : g ≠ gb233)) ((by rw [hg]; exact Nat.ne_of_gt (IsS105.lt (show IsS105 w0 _ g s0_0 t228 t229 from by repeat (first | (with_reducible first | exact HI0.out | apply IsS105.alloc | apply IsS105.drewN | apply IsS105.drew | apply IsS105.set_1 | apply IsS105.set_2 | refine IsS105.far ?_ NB0_200.out _ | refine IsS105.far ?_ NB0_207.out _) | exact HI0.out))) : gb233 ≠ g))
        clear HO_208000 HO213 BK200 BK207 HI0 HK HB
        obtain ⟨HO_208000, HO213, BK200, BK207, HI0, HK, HB, BK233, GW233, GE233, NB200_233, NB233_200, NB207_233, NB233_207, NB0_233, NB233_0⟩ := n_
        clear hb hbox hg
        refine hK.out _ _ ((blk_cell BK207.out 0).trans rfl) (fun hHeld => ?_)
        clear hK K
        refine norm_ (a' := ?_) ?_ ?_
        rotate_left
        ·show Act.put _ (some 10) _ = _
         simp only [Act.put, List.setIfInBounds_toArray, List.set_cons_zero, List.set_cons_succ, i64_w, i32_w]
         rfl
        exact norm_ (g45) (hJ4_6_11_14_17 (gb233) _ ⟨hHeld, (g1 HO213.out), (g1 HO_208000.out), (g2 BK200.out), (g2 BK207.out), (g2 BK233.out), GW233.out, GE233.out, NB0_233.out, NB233_0.out, NB200_233.out, NB233_200.out, NB207_233.out, NB233_207.out, (g46 HI0.out NB0_200.out NB0_207.out NB0_233.out), (g47 HK.out GW200.out GW207.out GW233.out), (g48 HB.out HI0.out GE200.out GE207.out GE233.out)⟩)
     ·skip
      rintro gb233 w40 ⟨hS_, h0_, h1_, h2_, h3_, h4_, h5_, h6_, h7_, h8_, h9_, h10_, h11_, h12_, h13_, h14_, h15_⟩
      have n0_ : Aside0 (Kd.R (Kd.int .i64) 3 w40 w.heap.size (fun _ => True) (.slice (some ad217) t211.length co32) t211) := ⟨h0_⟩
      have n1_ : Aside0 (Kd.R k93 93 w40 w.heap.size (fun _ => True) (.slice Ao30 x208000_1.length co30) x208000_1) := ⟨h1_⟩
      have n2_ : Aside0 (w40.heap[gb200]? = some (.cells #[.slice none 0 0] 68 (0, 0))) := ⟨h2_⟩
      have n3_ : Aside0 (w40.heap[gb207]? = some (.cells #[.slice Ao30 x208000_1.length co30] 68 (0, 0))) := ⟨h3_⟩
      have n4_ : Aside0 (w40.heap[gb233]? = some (.cells #[.slice none 0 0] 68 (0, 0))) := ⟨h4_⟩
      have n5_ : Aside0 (w.heap.size ≤ gb233) := ⟨h5_⟩
      have n6_ : Aside0 (w0.heap.size ≤ gb233) := ⟨h6_⟩
      have n7_ : Aside0 (g ≠ gb233) := ⟨h7_⟩
      have n8_ : Aside0 (gb233 ≠ g) := ⟨h8_⟩
      have n9_ : Aside0 (gb200 ≠ gb233) := ⟨h9_⟩
      have n10_ : Aside0 (gb233 ≠ gb200) := ⟨h10_⟩
      have n11_ : Aside0 (gb207 ≠ gb233) := ⟨h11_⟩
      have n12_ : Aside0 (gb233 ≠ gb207) := ⟨h12_⟩
      have n13_ : Aside0 (IsS105 w0 w40 g s0_0 t228 t229) := ⟨h13_⟩
      have n14_ : Aside0 (KeepBut w w40 g none) := ⟨h14_⟩
      have n15_ : Aside0 (Below w0.heap.size w0 w40) := ⟨h15_⟩
      clear HO_208000
      clear HO213
      clear BK200
      clear BK207
      clear HI0
      clear HK
      clear HB
      clear h0_ h1_ h2_ h3_ h4_ h5_ h6_ h7_ h8_ h9_ h10_ h11_ h12_ h13_ h14_ h15_
      have HO213 := n0_
      have HO_208000 := n1_
      have BK200 := n2_
      have BK207 := n3_
      have BK233 := n4_
      have GW233 := n5_
      have GE233 := n6_
      have NB0_233 := n7_
      have NB233_0 := n8_
      have NB200_233 := n9_
      have NB233_200 := n10_
      have NB207_233 := n11_
      have NB233_207 := n12_
      have HI0 := n13_
      have HK := n14_
      have HB := n15_
      clear n0_ n1_ n2_ n3_ n4_ n5_ n6_ n7_ n8_ n9_ n10_ n11_ n12_ n13_ n14_ n15_
      have hHeld : w40.cell? ⟨gb207, 0, none⟩ = some (.slice Ao30 x208000_1.length co30) := hS_
      refine norm_ (a' := ?_) ?_ ?_
      rotate_left
      ·exact ga1
      refine one_ (i := 16) (N := some 48) spec_l17Right.b0_ rfl rfl (one_of HT_.out (by kernel_rfl)) (by decide) (fun K hK => ?_)
      refine goes_ Try.func163 (by kernel_rfl) rfl #[.agg #[.slice Ao30 x208000_1.length co30], .int .i64 (rd t211 t214), .agg #[.int .i64 t218, .int .i64 (wrap64 (500 * (wrap64 (t221 - 4)))), .int .i64 0, .int .i64 0, .int .i64 0], .int .i64 (wrap64 (t224 - 1000)), .int .i64 (wrap64 (t227 - 1000))] (by rfl) rfl rfl (g9) ?_
      with_reducible refine (spec_l17Grown.calls k1 _ _ x208000_1 (rd t211 t214) t218 (wrap64 (500 * (wrap64 (t221 - 4)))) 0 0 0 (wrap64 (t224 - 1000)) (wrap64 (t227 - 1000)) t230 _ ?side1 ?side2 A24.out).mono ?_
      (case side1 => exact g26 HO_208000.out)
      (case side2 => exact (Kd.R_reads' HO_208000.out).2.1)
      rintro e w41 ⟨v231, rfl, ho0, hb⟩
      refine ⟨_, rfl, ?_⟩
      have n_ := spec_l17Right.K9_ (Kd.R_elder' (g1 HO_208000.out) (Kd.R_base ho0) hb) (Kd.R_below (g1 HO213.out) hb) (Kd.R_lower (Kd.R_new' ho0 (Kd.R_lt (g1 HO_208000.out))) (keep_size (w := w) (g := g) (row := none) (g47 HK.out GW200.out GW207.out GW233.out))) (blk_below (g := gb200) (o := .cells #[.slice none 0 0] 68 (0, 0)) (g2 BK200.out) hb) (blk_below (g := gb207) (o := .cells #[.slice Ao30 x208000_1.length co30] 68 (0, 0)) (g2 BK207.out) hb) (IsS105.below (g46 HI0.out NB0_200.out NB0_207.out NB0_233.out) hb) (blk_below (g := gb233) (o := .cells #[.slice none 0 0] 68 (0, 0)) (g2 BK233.out) hb) (KeepBut.trans (g47 HK.out GW200.out GW207.out GW233.out) (KeepBut.of_below hb g none) (.inl rfl)) (below_step (g48 HB.out HI0.out GE200.out GE207.out GE233.out) hb)
      clear HO_208000 HO213 BK200 BK207 HI0 BK233 HK HB
      obtain ⟨HO_208000, HO213, HO232, BK200, BK207, HI0, BK233, HK, HB⟩ := n_
      (try clear hb)
      (try clear hb2)
      (try clear hk)
      (try clear hi)
      (try clear ho0)
      refine hK.out _ _ ((blk_cell BK207.out 0).trans rfl) (fun hHeld => ?_)
      clear hK K
      refine norm_ (a' := ?_) ?_ ?_
      rotate_left
      ·show Act.put _ (some 48) _ = _
       simp only [Act.put, List.setIfInBounds_toArray, List.set_cons_zero, List.set_cons_succ, i64_w, i32_w]
       rfl
      exact norm_ (g45) (hJ4_6_11_14_16_17 (v231, gb233) _ ⟨hHeld, (g1 HO213.out), spec_l17Right.z5, spec_l17Right.z6, (g2 BK200.out), (g2 BK207.out), (g2 BK233.out), GW233.out, GE233.out, NB0_233.out, NB233_0.out, NB200_233.out, NB233_200.out, NB207_233.out, NB233_207.out, (g46 HI0.out NB0_200.out NB0_207.out NB0_233.out), (g47 HK.out GW200.out GW207.out GW233.out), (g48 HB.out HI0.out GE200.out GE207.out GE233.out)⟩)
    ·skip
     rintro v231 w40 ⟨hS_, h0_, h1_, h2_, h3_, h4_, h5_, h6_, h7_⟩
     have n0_ : Aside0 (Kd.R (Kd.int .i64) 3 w40 w.heap.size (fun _ => True) (.slice (some ad217) t211.length co32) t211) := ⟨h0_⟩
     have n1_ : Aside0 (Kd.R k93 93 w40 w.heap.size (fun k_ => some k_ ≠ (.slice Ao30 x208000_1.length co30 : Value).ownBlock) v231 t230) := ⟨h1_⟩
     have n2_ : Aside0 (Kd.R k93 93 w40 w.heap.size (fun k_ => some k_ ≠ (v231 : Value).ownBlock) (.slice Ao30 x208000_1.length co30) x208000_1) := ⟨h2_⟩
     have n3_ : Aside0 (w40.heap[gb200]? = some (.cells #[.slice none 0 0] 68 (0, 0))) := ⟨h3_⟩
     have n4_ : Aside0 (w40.heap[gb207]? = some (.cells #[.slice Ao30 x208000_1.length co30] 68 (0, 0))) := ⟨h4_⟩
     have n5_ : Aside0 (IsS105 w0 w40 g s0_0 t228 t229) := ⟨h5_⟩
     have n6_ : Aside0 (KeepBut w w40 g none) := ⟨h6_⟩
     have n7_ : Aside0 (Below w0.heap.size w0 w40) := ⟨h7_⟩
     clear HO_208000
     clear HO213
     clear BK200
     clear BK207
     clear HI0
     clear HK
     clear HB
     clear h0_ h1_ h2_ h3_ h4_ h5_ h6_ h7_
     have HO213 := n0_
     have HO232 := n1_
     have HO_208000 := n2_
     have BK200 := n3_
     have BK207 := n4_
     have HI0 := n5_
     have HK := n6_
     have HB := n7_
     clear n0_ n1_ n2_ n3_ n4_ n5_ n6_ n7_
     have hHeld : w40.cell? ⟨gb207, 0, none⟩ = some (.slice Ao30 x208000_1.length co30) := hS_
     refine norm_ (a' := ?_) ?_ ?_
     rotate_left
     ·exact ga1
     refine one_ (i := 17) (N := some 10) spec_l17Right.b0_ rfl rfl (one_of HT_.out (by kernel_rfl)) (by decide) (fun K hK => ?_)
     refine box_step ?hg (N := 10) ?hd (cs := #[.slice none 0 0]) (t := 68) ?hr ?_; (case hd => rfl); (case hg => rfl); (case hr => exact g10)
     intro gb233 hg w41 hbox hb
     have n0_ := Aside0.mk (Kd.R_below (g1 HO_208000.out) hb)
     have n1_ := Aside0.mk (Kd.R_below (g1 HO213.out) hb)
     have n2_ := Aside0.mk (Kd.R_below (g1 HO232.out) hb)
     have n3_ := Aside0.mk (blk_below (g := gb200) (o := .cells #[.slice none 0 0] 68 (0, 0)) (g2 BK200.out) hb)
     have n4_ := Aside0.mk (blk_below (g := gb207) (o := .cells #[.slice Ao30 x208000_1.length co30] 68 (0, 0)) (g2 BK207.out) hb)
     have n5_ := Aside0.mk (IsS105.below (g42 HI0.out NB0_200.out NB0_207.out) hb)
     have n6_ := Aside0.mk (KeepBut.trans (g44 HK.out GW200.out GW207.out) (KeepBut.of_below hb g none) (.inl rfl))
     have n7_ := Aside0.mk (below_step (g43 HB.out HI0.out GE200.out GE207.out) hb)
     have n8_ := Aside0.mk (hbox)
     have n9_ := Aside0.mk ((spec_l17Right.z2 : w.heap.size ≤ gb233))
     have n10_ := Aside0.mk ((Nat.le_trans HW0.out (spec_l17Right.z2 : w.heap.size ≤ gb233) : w0.heap.size ≤ gb233))
     have n11_ := Aside0.mk ((spec_l17Right.z0 : gb200 ≠ gb233))
     have n12_ := Aside0.mk ((spec_l17Right.z1 : gb233 ≠ gb200))
     have n13_ := Aside0.mk ((spec_l17Right.z3 : gb207 ≠ gb233))
     have n14_ := Aside0.mk ((spec_l17Right.z4 : gb233 ≠ gb207))
     have n15_ := Aside0.mk ((by rw [hg]; exact Nat.ne_of_lt (IsS105.lt (show IsS105 w0 _ g s0_0 t228 t229 from by repeat (first | (with_reducible first | exact HI0.out | apply IsS105.alloc | apply IsS105.drewN | apply IsS105.drew | apply IsS105.set_1 | apply IsS105.set_2 | refine IsS105.far ?_ NB0_200.out _ | refine IsS105.far ?_ NB0_207.out _) | exact HI0.out))) : g ≠ gb233))
     have n16_ := Aside0.mk ((by rw [hg]; exact Nat.ne_of_gt (IsS105.lt (show IsS105 w0 _ g s0_0 t228 t229 from by repeat (first | (with_reducible first | exact HI0.out | apply IsS105.alloc | apply IsS105.drewN | apply IsS105.drew | apply IsS105.set_1 | apply IsS105.set_2 | refine IsS105.far ?_ NB0_200.out _ | refine IsS105.far ?_ NB0_207.out _) | exact HI0.out))) : gb233 ≠ g))
     clear HO_208000
     clear HO213
     clear HO232
     clear BK200
     clear BK207
     clear HI0
     clear HK
     clear HB
     have HO_208000 := n0_
     have HO213 := n1_
     have HO232 := n2_
     have BK200 := n3_
     have BK207 := n4_
     have HI0 := n5_
     have HK := n6_
     have HB := n7_
     have BK233 := n8_
     have GW233 := n9_
     have GE233 := n10_
     have NB200_233 := n11_
     have NB233_200 := n12_
     have NB207_233 := n13_
     have NB233_207 := n14_
     have NB0_233 := n15_
     have NB233_0 := n16_
     clear n0_ n1_ n2_ n3_ n4_ n5_ n6_ n7_ n8_ n9_ n10_ n11_ n12_ n13_ n14_ n15_ n16_
     clear hb hbox hg
     refine hK.out _ _ ((blk_cell BK207.out 0).trans rfl) (fun hHeld => ?_)
     clear hK K
     refine norm_ (a' := ?_) ?_ ?_
     rotate_left
     ·show Act.put _ (some 10) _ = _
      simp only [Act.put, List.setIfInBounds_toArray, List.set_cons_zero, List.set_cons_succ, i64_w, i32_w]
      rfl
     exact norm_ (g45) (hJ4_6_11_14_16_17 (v231, gb233) _ ⟨hHeld, (g1 HO213.out), (g1 HO232.out), (g1 HO_208000.out), (g2 BK200.out), (g2 BK207.out), (g2 BK233.out), GW233.out, GE233.out, NB0_233.out, NB233_0.out, NB200_233.out, NB233_200.out, NB207_233.out, NB233_207.out, (g46 HI0.out NB0_200.out NB0_207.out NB0_233.out), (g47 HK.out GW200.out GW207.out GW233.out), (g48 HB.out HI0.out GE200.out GE207.out GE233.out)⟩)
   rintro ⟨v231, gb233⟩ w41 ⟨hS_, h0_, h1_, h2_, h3_, h4_, h5_, h6_, h7_, h8_, h9_, h10_, h11_, h12_, h13_, h14_, h15_, h16_⟩
   have n0_ : Aside0 (Kd.R (Kd.int .i64) 3 w41 w.heap.size (fun _ => True) (.slice (some ad217) t211.length co32) t211) := ⟨h0_⟩
   have n1_ : Aside0 (Kd.R k93 93 w41 w.heap.size (fun k_ => some k_ ≠ (.slice Ao30 x208000_1.length co30 : Value).ownBlock) v231 t230) := ⟨h1_⟩
   have n2_ : Aside0 (Kd.R k93 93 w41 w.heap.size (fun k_ => some k_ ≠ (v231 : Value).ownBlock) (.slice Ao30 x208000_1.length co30) x208000_1) := ⟨h2_⟩
   have n3_ : Aside0 (w41.heap[gb200]? = some (.cells #[.slice none 0 0] 68 (0, 0))) := ⟨h3_⟩
   have n4_ : Aside0 (w41.heap[gb207]? = some (.cells #[.slice Ao30 x208000_1.length co30] 68 (0, 0))) := ⟨h4_⟩
   have n5_ : Aside0 (w41.heap[gb233]? = some (.cells #[.slice none 0 0] 68 (0, 0))) := ⟨h5_⟩
   have n6_ : Aside0 (w.heap.size ≤ gb233) := ⟨h6_⟩
   have n7_ : Aside0 (w0.heap.size ≤ gb233) := ⟨h7_⟩
   have n8_ : Aside0 (g ≠ gb233) := ⟨h8_⟩
   have n9_ : Aside0 (gb233 ≠ g) := ⟨h9_⟩
   have n10_ : Aside0 (gb200 ≠ gb233) := ⟨h10_⟩
   have n11_ : Aside0 (gb233 ≠ gb200) := ⟨h11_⟩
   have n12_ : Aside0 (gb207 ≠ gb233) := ⟨h12_⟩
   have n13_ : Aside0 (gb233 ≠ gb207) := ⟨h13_⟩
   have n14_ : Aside0 (IsS105 w0 w41 g s0_0 t228 t229) := ⟨h14_⟩
   have n15_ : Aside0 (KeepBut w w41 g none) := ⟨h15_⟩
   have n16_ : Aside0 (Below w0.heap.size w0 w41) := ⟨h16_⟩
   clear HO_208000
   clear HO213
   clear BK200
   clear BK207
   clear HI0
   clear HK
   clear HB
   clear h0_ h1_ h2_ h3_ h4_ h5_ h6_ h7_ h8_ h9_ h10_ h11_ h12_ h13_ h14_ h15_ h16_
   have HO213 := n0_
   have HO232 := n1_
   have HO_208000 := n2_
   have BK200 := n3_
   have BK207 := n4_
   have BK233 := n5_
   have GW233 := n6_
   have GE233 := n7_
   have NB0_233 := n8_
   have NB233_0 := n9_
   have NB200_233 := n10_
   have NB233_200 := n11_
   have NB207_233 := n12_
   have NB233_207 := n13_
   have HI0 := n14_
   have HK := n15_
   have HB := n16_
   clear n0_ n1_ n2_ n3_ n4_ n5_ n6_ n7_ n8_ n9_ n10_ n11_ n12_ n13_ n14_ n15_ n16_
   have hHeld : w41.cell? ⟨gb207, 0, none⟩ = some (.slice Ao30 x208000_1.length co30) := hS_
   obtain ⟨Ao42, co42, eo42⟩ := Kd.R_slice HO232.out
   (first | subst eo42 | (injection eo42 with f1_ f2_ f3_; have f4_ := f1_.symm; have f5_ := f3_.symm; clear f1_ f2_ f3_; subst f4_; subst f5_))
   refine norm_ (a' := ?_) ?_ ?_
   rotate_left
   ·exact ga1
   refine one_ (i := 18) (N := none) #[true, true, true, true, true, true, true, true, true, true, true, true, true, true, true, true, true, true, true] rfl rfl (one_of HT_.out (by kernel_rfl)) (by decide) (fun K hK => ?_)
   have hs43 : w41.cell? ⟨gb233, 0, none⟩ = some (.slice none 0 0) := (blk_cell BK233.out 0).trans rfl
   have hfs43 := blk_frozen BK233.out 0
   have hns43_0 := NB200_233.out
   have hns43_1 := NB207_233.out
   have hms43_0 := NB233_200.out
   have hms43_1 := NB233_207.out
   refine skip_ (w1 := ?_) (by rfl) rfl ?_ ?_
   rotate_left
   ·go_simp
    rfl
   refine hK.out _ _ (((cell_far (p := ⟨gb233, _, none⟩) NB207_233.out _).trans (hHeld))) (fun hHeld => ?_)
   clear hK K
   refine done_ (done_of HT_.out (by kernel_rfl)) ?_
   have hnb44 := NB233_200.out
   have hnc44 := NB200_233.out
   have hnb45 := NB233_207.out
   have hnc45 := NB207_233.out
   have hnb46 := NB233_0.out
   have hnc46 := NB0_233.out
   have hcz47_0 : w41.cell? ⟨gb233, 0, none⟩ = some (.slice none 0 0) := (blk_cell BK233.out 0).trans rfl
   have hfz47_0 := blk_frozen BK233.out 0
   go_upto_if 51 with (first | ((with_reducible refine gate_callee (f := 88) rfl ?_); refine goesL_ (some 51) rfl rfl Try.func88 (by kernel_rfl) rfl #[.agg #[.slice Ao42 t230.length co42], .int .i64 a1] rfl (g9) ?_; (with_reducible refine (spec_TreeOk.calls k1 _ _ t230 a1 t234 _ ?side1 ?side2 A25.out).mono ?_); (case side1 => refine (Kd.R_reads' (e := 93) (base := w.heap.size) (ok := fun k_ => some k_ ≠ (.slice Ao30 x208000_1.length co30 : Value).ownBlock) (n := t230.length) (c := co42) ?_).2.2; exact spec_l17Right.z7); (case side2 => exact (Kd.R_reads' HO232.out).2.1); rintro e w48 ⟨rfl, hb⟩; refine ⟨_, rfl, ?_⟩; have n_ := spec_l17Right.K9_ (Kd.R_below (by (with_reducible repeat (first | apply Kd.R_alloc | apply Kd.R_drewN | apply Kd.R_drew)); exact (Kd.R_mono (Kd.R_far (p := ⟨gb233, 0, none⟩) (Kd.R_types HO_208000.out BK233.out (by decide)) (fun _ hk => hk.2) (.slice Ao42 t230.length co42)) (fun _ h_ => h_.1))) hb) (Kd.R_below (by (with_reducible repeat (first | apply Kd.R_alloc | apply Kd.R_drewN | apply Kd.R_drew)); exact (Kd.R_mono (Kd.R_far (p := ⟨gb233, 0, none⟩) (Kd.R_types HO213.out BK233.out (by decide)) (fun _ hk => hk.2) (.slice Ao42 t230.length co42)) (fun _ h_ => h_.1))) hb) (Kd.R_below spec_l17Right.z7 hb) (blk_below (g := gb200) (o := .cells #[.slice none 0 0] 68 (0, 0)) (g22 NB200_233.out BK200.out) hb) (blk_below (g := gb207) (o := .cells #[.slice Ao30 x208000_1.length co30] 68 (0, 0)) (g22 NB207_233.out BK207.out) hb) (IsS105.below (show IsS105 w0 (w41.setCell ⟨gb233, 0, none⟩ (.slice Ao42 t230.length co42)) g s0_0 t228 t229 from by repeat (first | (with_reducible first | exact HI0.out | apply IsS105.alloc | apply IsS105.drewN | apply IsS105.drew | apply IsS105.set_1 | apply IsS105.set_2 | refine IsS105.far ?_ NB0_200.out _ | refine IsS105.far ?_ NB0_207.out _ | refine IsS105.far ?_ NB0_233.out _) | exact HI0.out)) hb) (blk_below (g := gb233) (o := .cells #[.slice Ao42 t230.length co42] 68 (0, 0)) (by (with_reducible repeat (first | refine blk_drewN ?_ _ | refine blk_drew ?_ | refine blk_alloc ?_ _)); refine blk_put (cs := #[.slice none 0 0]) ?_ 0 _ rfl; (with_reducible repeat (first | refine blk_drewN ?_ _ | refine blk_drew ?_ | refine blk_alloc ?_ _)); exact BK233.out) hb) (KeepBut.trans (g47 HK.out GW200.out GW207.out GW233.out) (KeepBut.of_below hb g none) (.inl rfl)) (below_step (g48 HB.out HI0.out GE200.out GE207.out GE233.out) hb); clear HO_208000 HO213 HO232 BK200 BK207 HI0 BK233 HK HB; obtain ⟨HO_208000, HO213, HO232, BK200, BK207, HI0, BK233, HK, HB⟩ := n_; (try clear hb); (try clear hb2); (try clear hk); (try clear hi)))
   (try simp only [Act.put, List.setIfInBounds_toArray, List.set_cons_zero, List.set_cons_succ])
   have H := HZ26.out
   clear HZ26
   by_cases c49 : t234 = true
   case neg =>
    replace c49 := Bool.eq_false_iff.mpr c49
    subst c49
    have H1 : (spec_l17Right.l0 k1 a1 t208 (wrap64 (x7_1 + 1)) s0_0 t228 t229 x208000_1) = some (r1, r2, r3) := by rw [if_neg (show ¬ (false = true) by decide)] at H; exact H
    clear H
    have H := H1
    clear H1
    have H' := Aside0.mk H
    clear H
    go_wp2
    go_roundg k1
    case measure => have := HK1.out; omega
    case rel => exact ⟨(wrap64 (x7_1 + 1)), (t228), (t229), (x208000_1), (.slice Ao30 x208000_1.length co30), (g0), H', ⟨by have := HK1.out; omega⟩, ⟨by (with_reducible repeat (first | apply Kd.R_alloc | apply Kd.R_drewN | apply Kd.R_drew)); exact Kd.R_mono HO_208000.out (fun _ hk => trivial)⟩, ⟨g2 BK200.out⟩, ⟨g2 BK207.out⟩, ⟨g46 HI0.out NB0_200.out NB0_207.out NB0_233.out⟩, ⟨g47 HK.out GW200.out GW207.out GW233.out⟩, ⟨g48 HB.out HI0.out GE200.out GE207.out GE233.out⟩⟩
   subst c49
   have H1 : (spec_l17Right.l0 k1 a1 t208 (wrap64 (x7_1 + 1)) s0_0 t228 t229 t230) = some (r1, r2, r3) := by rw [if_pos rfl] at H; exact H
   clear H
   have H := H1
   clear H1
   have H' := Aside0.mk H
   clear H
   have hnb50 := NB233_200.out
   have hnc50 := NB200_233.out
   have hnb51 := NB233_207.out
   have hnc51 := NB207_233.out
   have hnb52 := NB233_0.out
   have hnc52 := NB0_233.out
   have hcz53_0 : w48.cell? ⟨gb233, 0, none⟩ = some (.slice Ao42 t230.length co42) := (blk_cell BK233.out 0).trans rfl
   have hfz53_0 := blk_frozen BK233.out 0
   have hnb54 := NB207_200.out
   have hnc54 := NB200_207.out
   have hnb55 := NB207_0.out
   have hnc55 := NB0_207.out
   have hcz56_0 : w48.cell? ⟨gb207, 0, none⟩ = some (.slice Ao30 x208000_1.length co30) := (blk_cell BK207.out 0).trans rfl
   have hfz56_0 := blk_frozen BK207.out 0
   go_wp2
   go_roundg k1
   case measure => have := HK1.out; omega
   case rel => exact ⟨(wrap64 (x7_1 + 1)), (t228), (t229), (t230), (.slice Ao42 t230.length co42), (g0), H', ⟨by have := HK1.out; omega⟩, ⟨by (with_reducible repeat (first | apply Kd.R_alloc | apply Kd.R_drewN | apply Kd.R_drew)); exact Kd.R_mono (Kd.R_far (p := ⟨gb207, 0, none⟩) (Kd.R_types HO232.out BK207.out (by decide)) (fun _ hk => hk.2) (.slice Ao42 t230.length co42)) (fun _ hk => trivial)⟩, ⟨g22 NB200_207.out BK200.out⟩, ⟨by (with_reducible repeat (first | refine blk_drewN ?_ _ | refine blk_drew ?_ | refine blk_alloc ?_ _)); refine blk_put (cs := #[.slice Ao30 x208000_1.length co30]) ?_ 0 _ rfl; (with_reducible repeat (first | refine blk_drewN ?_ _ | refine blk_drew ?_ | refine blk_alloc ?_ _)); exact BK207.out⟩, ⟨g46 HI0.out NB0_200.out NB0_207.out NB0_233.out⟩, ⟨g47 HK.out GW200.out GW207.out GW233.out⟩, ⟨g48 HB.out HI0.out GE200.out GE207.out GE233.out⟩⟩
end Go.Proofs.Yteoikmbdpofhmaa.XFnUses
