import Derived.Test.YtcgmdpnhlkbpbaaDoorVFnNodeTextXx0
import Derived.Test.YtcgmdpnhlkbpbaaDoorVFnNodeTextXx2
import Derived.Test.YtcgmdpnhlkbpbaaDoorVFnNodeTextXx7
namespace Go.Proofs.YtcgmdpnhlkbpbaaDoor.XFnNodeText
open Go.RowKit Go.Proofs.YtcgmdpnhlkbpbaaDoorW.PrintWords Go.Proofs.YtcgmdpnhlkbpbaaDoorW.PrintLast Go.Proofs.YtcgmdpnhlkbpbaaDoorW.PrintMore
attribute [local go_sem] max2_int min2_int max_two min_two max_three min_three max_four min_four
set_option linter.unusedVariables false
set_option linter.unusedSimpArgs false
theorem spec_l25Node.K3_ {p0 p1 p2 : Prop} (h0 : p0) (h1 : p1) (h2 : p2) : Aside0 p0 ∧ Aside0 p1 ∧ Aside0 p2 := ⟨⟨h0⟩, ⟨h1⟩, ⟨h2⟩⟩
theorem spec_l25Node.K4_ {p0 p1 p2 p3 : Prop} (h0 : p0) (h1 : p1) (h2 : p2) (h3 : p3) : Aside0 p0 ∧ Aside0 p1 ∧ Aside0 p2 ∧ Aside0 p3 := ⟨⟨h0⟩, ⟨h1⟩, ⟨h2⟩, ⟨h3⟩⟩
theorem spec_l25Node.K5_ {p0 p1 p2 p3 p4 : Prop} (h0 : p0) (h1 : p1) (h2 : p2) (h3 : p3) (h4 : p4) : Aside0 p0 ∧ Aside0 p1 ∧ Aside0 p2 ∧ Aside0 p3 ∧ Aside0 p4 := ⟨⟨h0⟩, ⟨h1⟩, ⟨h2⟩, ⟨h3⟩, ⟨h4⟩⟩
theorem spec_l25Node.K6_ {p0 p1 p2 p3 p4 p5 : Prop} (h0 : p0) (h1 : p1) (h2 : p2) (h3 : p3) (h4 : p4) (h5 : p5) : Aside0 p0 ∧ Aside0 p1 ∧ Aside0 p2 ∧ Aside0 p3 ∧ Aside0 p4 ∧ Aside0 p5 := ⟨⟨h0⟩, ⟨h1⟩, ⟨h2⟩, ⟨h3⟩, ⟨h4⟩, ⟨h5⟩⟩
theorem spec_l25Node.K8_ {p0 p1 p2 p3 p4 p5 p6 p7 : Prop} (h0 : p0) (h1 : p1) (h2 : p2) (h3 : p3) (h4 : p4) (h5 : p5) (h6 : p6) (h7 : p7) : Aside0 p0 ∧ Aside0 p1 ∧ Aside0 p2 ∧ Aside0 p3 ∧ Aside0 p4 ∧ Aside0 p5 ∧ Aside0 p6 ∧ Aside0 p7 := ⟨⟨h0⟩, ⟨h1⟩, ⟨h2⟩, ⟨h3⟩, ⟨h4⟩, ⟨h5⟩, ⟨h6⟩, ⟨h7⟩⟩
theorem spec_l25Node.K12_ {p0 p1 p2 p3 p4 p5 p6 p7 p8 p9 p10 p11 : Prop} (h0 : p0) (h1 : p1) (h2 : p2) (h3 : p3) (h4 : p4) (h5 : p5) (h6 : p6) (h7 : p7) (h8 : p8) (h9 : p9) (h10 : p10) (h11 : p11) : Aside0 p0 ∧ Aside0 p1 ∧ Aside0 p2 ∧ Aside0 p3 ∧ Aside0 p4 ∧ Aside0 p5 ∧ Aside0 p6 ∧ Aside0 p7 ∧ Aside0 p8 ∧ Aside0 p9 ∧ Aside0 p10 ∧ Aside0 p11 := ⟨⟨h0⟩, ⟨h1⟩, ⟨h2⟩, ⟨h3⟩, ⟨h4⟩, ⟨h5⟩, ⟨h6⟩, ⟨h7⟩, ⟨h8⟩, ⟨h9⟩, ⟨h10⟩, ⟨h11⟩⟩
def spec_l25Node.f (k : Nat) (s0_0 : List Int) (s0_1 : Int) (s0_2 : Int) : Option (Int × Int × Int × Int × Int × Int × Int) := (spec_l17Bent.f k s0_0 s0_1 s0_2).bind fun bt297 => (if (bt297.1.length : Int) = 0 then (some ((-1), 0, 0, 0, 0, bt297.2.1, bt297.2.2)) else ((spec_l1Below.f s0_0 bt297.2.1 bt297.2.2 (bt297.1.length : Int)).bind fun bt303 => (if 0 ≤ bt303.1 then (if bt303.1 < (bt297.1.length : Int) then (some ((rd_T23 bt297.1 bt303.1).f0, (rd_T23 bt297.1 bt303.1).f1, (rd_T23 bt297.1 bt303.1).f2, (rd_T23 bt297.1 bt303.1).f3, (rd_T23 bt297.1 bt303.1).f4, bt303.2.1, bt303.2.2)) else (none)) else (none))))
def spec_l25Node.T4 : Bool × List (List Nat × List Nat) := (true, [([], []), ([0], [0]), ([], []), ([], []), ([3], [3]), ([4], [4]), ([2, 5], [2, 5]), ([1, 6], [1, 6]), ([7], [7]), ([8, 6, 0, 1, 2, 3, 4, 5, 6, 7, 8], [8])])
def spec_l25Node.B4 : List Nat := [0, 1, 0, 0, 8, 24, 60, 127, 255, 511]
theorem spec_l25Node.tab4 : rtab .any (opsOf Tryd.f59 4) = spec_l25Node.T4 := by kernel_rfl
theorem spec_l25Node.bits4 : waitsOk spec_l25Node.T4.2 spec_l25Node.B4 = true := by kernel_rfl
set_option maxHeartbeats 8000000 in
set_option maxRecDepth 100000 in
theorem spec_l25Node.calls (k : Nat) (g : Nat) (s0_0 : List Int) (s0_1 : Int) (s0_2 : Int) (r1 : Int) (r2 : Int) (r3 : Int) (r4 : Int) (r5 : Int) (r6 : Int) (r7 : Int) (w0 w : World) (hI : IsS118 w0 w g s0_0 s0_1 s0_2) (hB : Below w0.heap.size w0 w) (h : spec_l25Node.f k s0_0 s0_1 s0_2 = some (r1, r2, r3, r4, r5, r6, r7)) :
    Calls Tryd.prog 59 #[.pointer (some ⟨g, 0, none⟩)] w fun e w' => e = .returned (.agg #[.int .i64 r1, .int .i64 r2, .int .i64 r3, .int .i64 r4, .int .i64 r5]) ∧ IsS118 w0 w' g s0_0 r6 r7 ∧ Below w0.heap.size w0 w' ∧ KeepBut w w' g none := by
 have hu23 := Tryd.underlying23
 have hu65 := Tryd.underlying65
 have HI0 := Aside0.mk hI
 have HK := Aside0.mk (KeepBut.refl w g none)
 have HL := Aside0.mk hB.size
 clear hI
 have HW0 := Aside0.mk hB.size
 have HB := Aside0.mk hB
 clear hB
 have H : ((spec_l17Bent.f k s0_0 s0_1 s0_2).bind fun bt297 => (if (bt297.1.length : Int) = 0 then (some ((-1), 0, 0, 0, 0, bt297.2.1, bt297.2.2)) else ((spec_l1Below.f s0_0 bt297.2.1 bt297.2.2 (bt297.1.length : Int)).bind fun bt303 => (if 0 ≤ bt303.1 then (if bt303.1 < (bt297.1.length : Int) then (some ((rd_T23 bt297.1 bt303.1).f0, (rd_T23 bt297.1 bt303.1).f1, (rd_T23 bt297.1 bt303.1).f2, (rd_T23 bt297.1 bt303.1).f3, (rd_T23 bt297.1 bt303.1).f4, bt303.2.1, bt303.2.2)) else (none)) else (none))))) = some (r1, r2, r3, r4, r5, r6, r7) := h
 clear h
 replace H := Option.bind_eq_some_iff.mp H
 obtain ⟨⟨t297, t300, t301⟩, A20, H⟩ := H
 replace H : (if (t297.length : Int) = 0 then (some ((-1), 0, 0, 0, 0, t300, t301)) else ((spec_l1Below.f s0_0 t300 t301 (t297.length : Int)).bind fun bt303 => (if 0 ≤ bt303.1 then (if bt303.1 < (t297.length : Int) then (some ((rd_T23 t297 bt303.1).f0, (rd_T23 t297 bt303.1).f1, (rd_T23 t297 bt303.1).f2, (rd_T23 t297 bt303.1).f3, (rd_T23 t297 bt303.1).f4, bt303.2.1, bt303.2.2)) else (none)) else (none)))) = some (r1, r2, r3, r4, r5, r6, r7) := H
 have A2 := Aside0.mk A20
 clear A20
 by_cases c3 : (t297.length : Int) = 0
 case pos =>
  rw [if_pos c3] at H
  have c3b0 : ((t297.length : Int) == 0) = true := beq_iff_eq.mpr c3
  have c3b1 : ((t297.length : Int) != 0) = false := bne_eq_false_iff_eq.mpr c3
  clear c3
  simp only [Option.some.injEq, Prod.mk.injEq] at H
  obtain ⟨rfl, rfl, rfl, rfl, rfl, rfl, rfl⟩ := H
  go_enter Tryd.func59, Tryd.ntmps59
  go_wp2_with (first | ((with_reducible refine gate_dst (N := 2) rfl ?_); refine box_event ?hg (N := 2) ?hd (cs := #[.int .i64 0, .int .i64 0, .int .i64 0, .int .i64 0, .int .i64 0]) (t := 23) ?hr ?_; (case hd => rfl); (case hg => rfl); (case hr => first | (go_simp; done) | (go_simp; rfl)); intro gb296 hg w4 hbox hb; have n_ := spec_l25Node.K8_ (IsS118.below (by repeat (first | (with_reducible first | exact HI0.out | apply IsS118.alloc | apply IsS118.drewN | apply IsS118.drew | apply IsS118.set_1 | apply IsS118.set_2) | exact HI0.out)) hb) (KeepBut.trans (by repeat (first | (with_reducible first | exact HK.out | apply KeepBut.set_ | apply keep_drewN | apply keep_drew | apply keep_alloc) | exact HK.out)) (KeepBut.of_below hb g none) (.inl rfl)) (below_step (by repeat (first | (with_reducible first | exact HB.out | apply below_alloc | apply pw_below_drewN | apply below_drew1 | refine below_set ?_ (IsS118.ge HI0.out)) | exact HB.out)) hb) hbox ((by rw [hg]; exact (keep_size (w := w) (g := g) (row := none) (by repeat (first | (with_reducible first | exact HK.out | apply KeepBut.set_ | apply keep_drewN | apply keep_drew | apply keep_alloc) | exact HK.out))) : w.heap.size ≤ gb296)) ((Nat.le_trans HW0.out (by rw [hg]; exact (keep_size (w := w) (g := g) (row := none) (by repeat (first | (with_reducible first | exact HK.out | apply KeepBut.set_ | apply keep_drewN | apply keep_drew | apply keep_alloc) | exact HK.out))) : w.heap.size ≤ gb296) : w0.heap.size ≤ gb296)) ((by rw [hg]; exact Nat.ne_of_lt (IsS118.lt (show IsS118 w0 _ g s0_0 s0_1 s0_2 from by repeat (first | (with_reducible first | exact HI0.out | apply IsS118.alloc | apply IsS118.drewN | apply IsS118.drew | apply IsS118.set_1 | apply IsS118.set_2) | exact HI0.out))) : g ≠ gb296)) ((by rw [hg]; exact Nat.ne_of_gt (IsS118.lt (show IsS118 w0 _ g s0_0 s0_1 s0_2 from by repeat (first | (with_reducible first | exact HI0.out | apply IsS118.alloc | apply IsS118.drewN | apply IsS118.drew | apply IsS118.set_1 | apply IsS118.set_2) | exact HI0.out))) : gb296 ≠ g)); clear HI0 HK HB; obtain ⟨HI0, HK, HB, BK296, GW296, GE296, NB0_296, NB296_0⟩ := n_; clear hb hbox hg) | ((with_reducible refine gate_callee (f := 81) rfl ?_); refine goesL_ (some 5) rfl rfl Tryd.func81 (by kernel_rfl) rfl #[.pointer (some ⟨g, 0, none⟩)] rfl (by (try simp only [List.map_toArray, List.map_cons, List.map_nil]); first | done | rfl | (simp only [List.length_drop, List.length_take]; rfl)) ?_; (with_reducible refine (spec_l17Bent.calls k g s0_0 s0_1 s0_2 t297 t300 t301 w0 _ ?side1 ?side2 A2.out).mono ?_); (case side1 => repeat (first | (with_reducible first | exact HI0.out | apply IsS118.alloc | apply IsS118.drewN | apply IsS118.drew | apply IsS118.set_1 | apply IsS118.set_2 | refine IsS118.far ?_ NB0_296.out _) | exact HI0.out)); (case side2 => repeat (first | (with_reducible first | exact HB.out | apply below_alloc | apply pw_below_drewN | apply below_drew1 | refine below_set ?_ (IsS118.ge HI0.out) | refine below_set ?_ GE296.out) | exact HB.out)); rintro e w5 ⟨v298, rfl, ho0, hi, hb, hk⟩; refine ⟨_, rfl, ?_⟩; have n_ := spec_l25Node.K5_ (KeepBut.blk hk (g' := gb296) (o := .cells #[.int .i64 0, .int .i64 0, .int .i64 0, .int .i64 0, .int .i64 0] 23 (0, 0)) (by (with_reducible repeat (first | refine blk_drewN ?_ _ | refine blk_drew ?_ | refine blk_alloc ?_ _)); exact BK296.out) NB296_0.out (by simp)) (Kd.R_lower (Kd.R_newB ho0 (g := gb296) (o := .cells #[.int .i64 0, .int .i64 0, .int .i64 0, .int .i64 0, .int .i64 0] 23 (0, 0)) (by (with_reducible repeat (first | refine blk_drewN ?_ _ | refine blk_drew ?_ | refine blk_alloc ?_ _)); exact BK296.out)) (keep_size (w := w) (g := g) (row := none) (by repeat (first | (with_reducible first | exact HK.out | apply KeepBut.set_ | apply keep_drewN | apply keep_drew | apply keep_alloc | refine keep_far ?_ GW296.out _) | exact HK.out)))) (KeepBut.trans (by repeat (first | (with_reducible first | exact HK.out | apply KeepBut.set_ | apply keep_drewN | apply keep_drew | apply keep_alloc | refine keep_far ?_ GW296.out _) | exact HK.out)) hk (.inl rfl)) hb hi; clear BK296 HK HB HI0; obtain ⟨BK296, HO299, HK, HB, HI0⟩ := n_; (try clear hb); (try clear hb2); (try clear hk); (try clear hi); (try clear ho0)) | ((with_reducible refine gate_dst (N := 3) rfl ?_); refine box_event ?hg (N := 3) ?hd (cs := #[.slice none 0 0]) (t := 65) ?hr ?_; (case hd => rfl); (case hg => rfl); (case hr => first | (go_simp; done) | (go_simp; rfl)); intro gb302 hg w6 hbox hb; have n_ := spec_l25Node.K12_ (Kd.R_below (by (with_reducible repeat (first | apply Kd.R_alloc | apply Kd.R_drewN | apply Kd.R_drew)); exact HO299.out) hb) (IsS118.below (by repeat (first | (with_reducible first | exact HI0.out | apply IsS118.alloc | apply IsS118.drewN | apply IsS118.drew | apply IsS118.set_1 | apply IsS118.set_2 | refine IsS118.far ?_ NB0_296.out _) | exact HI0.out)) hb) (blk_below (g := gb296) (o := .cells #[.int .i64 0, .int .i64 0, .int .i64 0, .int .i64 0, .int .i64 0] 23 (0, 0)) (by (with_reducible repeat (first | refine blk_drewN ?_ _ | refine blk_drew ?_ | refine blk_alloc ?_ _)); exact BK296.out) hb) (KeepBut.trans (by repeat (first | (with_reducible first | exact HK.out | apply KeepBut.set_ | apply keep_drewN | apply keep_drew | apply keep_alloc | refine keep_far ?_ GW296.out _) | exact HK.out)) (KeepBut.of_below hb g none) (.inl rfl)) (below_step (by repeat (first | (with_reducible first | exact HB.out | apply below_alloc | apply pw_below_drewN | apply below_drew1 | refine below_set ?_ (IsS118.ge HI0.out) | refine below_set ?_ GE296.out) | exact HB.out)) hb) hbox ((by rw [hg]; exact (keep_size (w := w) (g := g) (row := none) (by repeat (first | (with_reducible first | exact HK.out | apply KeepBut.set_ | apply keep_drewN | apply keep_drew | apply keep_alloc | refine keep_far ?_ GW296.out _) | exact HK.out))) : w.heap.size ≤ gb302)) ((Nat.le_trans HW0.out (by rw [hg]; exact (keep_size (w := w) (g := g) (row := none) (by repeat (first | (with_reducible first | exact HK.out | apply KeepBut.set_ | apply keep_drewN | apply keep_drew | apply keep_alloc | refine keep_far ?_ GW296.out _) | exact HK.out))) : w.heap.size ≤ gb302) : w0.heap.size ≤ gb302)) ((by rw [hg]; exact Nat.ne_of_lt (blk_lt (g := gb296) (o := .cells #[.int .i64 0, .int .i64 0, .int .i64 0, .int .i64 0, .int .i64 0] 23 (0, 0)) (by (with_reducible repeat (first | refine blk_drewN ?_ _ | refine blk_drew ?_ | refine blk_alloc ?_ _)); exact BK296.out)) : gb296 ≠ gb302)) ((by rw [hg]; exact Nat.ne_of_gt (blk_lt (g := gb296) (o := .cells #[.int .i64 0, .int .i64 0, .int .i64 0, .int .i64 0, .int .i64 0] 23 (0, 0)) (by (with_reducible repeat (first | refine blk_drewN ?_ _ | refine blk_drew ?_ | refine blk_alloc ?_ _)); exact BK296.out)) : gb302 ≠ gb296)) ((by rw [hg]; exact Nat.ne_of_lt (IsS118.lt (show IsS118 w0 _ g s0_0 t300 t301 from by repeat (first | (with_reducible first | exact HI0.out | apply IsS118.alloc | apply IsS118.drewN | apply IsS118.drew | apply IsS118.set_1 | apply IsS118.set_2 | refine IsS118.far ?_ NB0_296.out _) | exact HI0.out))) : g ≠ gb302)) ((by rw [hg]; exact Nat.ne_of_gt (IsS118.lt (show IsS118 w0 _ g s0_0 t300 t301 from by repeat (first | (with_reducible first | exact HI0.out | apply IsS118.alloc | apply IsS118.drewN | apply IsS118.drew | apply IsS118.set_1 | apply IsS118.set_2 | refine IsS118.far ?_ NB0_296.out _) | exact HI0.out))) : gb302 ≠ g)); clear HO299 HI0 BK296 HK HB; obtain ⟨HO299, HI0, BK296, HK, HB, BK302, GW302, GE302, NB296_302, NB302_296, NB0_302, NB302_0⟩ := n_; clear hb hbox hg; obtain ⟨Ao7, co7, eo7⟩ := Kd.R_slice HO299.out; subst eo7; have hnb8 := NB302_296.out; have hnc8 := NB296_302.out; have hnb9 := NB302_0.out; have hnc9 := NB0_302.out; have hcz10_0 : w6.cell? ⟨gb302, 0, none⟩ = some (.slice none 0 0) := (blk_cell BK302.out 0).trans rfl; have hfz10_0 := blk_frozen BK302.out 0; have hnb11 := NB296_0.out; have hnc11 := NB0_296.out; have hcz12_0 : w6.cell? ⟨gb296, 0, none⟩ = some (.int .i64 0) := (blk_cell BK296.out 0).trans rfl; have hcz12_1 : w6.cell? ⟨gb296, 1, none⟩ = some (.int .i64 0) := (blk_cell BK296.out 1).trans rfl; have hcz12_2 : w6.cell? ⟨gb296, 2, none⟩ = some (.int .i64 0) := (blk_cell BK296.out 2).trans rfl; have hcz12_3 : w6.cell? ⟨gb296, 3, none⟩ = some (.int .i64 0) := (blk_cell BK296.out 3).trans rfl; have hcz12_4 : w6.cell? ⟨gb296, 4, none⟩ = some (.int .i64 0) := (blk_cell BK296.out 4).trans rfl; have hfz12_0 := blk_frozen BK296.out 0; have hfz12_1 := blk_frozen BK296.out 1; have hfz12_2 := blk_frozen BK296.out 2; have hfz12_3 := blk_frozen BK296.out 3; have hfz12_4 := blk_frozen BK296.out 4))
  refine bodyPost_ret (results_cell_row rfl _ _ gb296 23 #[.int .i64 (-1), .int .i64 0, .int .i64 0, .int .i64 0, .int .i64 0] (0, 0) _ rfl (by (with_reducible repeat (first | refine blk_drewN ?_ _ | refine blk_drew ?_ | refine blk_alloc ?_ _)); refine blk_put (cs := #[.int .i64 (-1), .int .i64 0, .int .i64 0, .int .i64 0, .int .i64 0]) ?_ 4 _ rfl; (with_reducible repeat (first | refine blk_drewN ?_ _ | refine blk_drew ?_ | refine blk_alloc ?_ _)); refine blk_put (cs := #[.int .i64 (-1), .int .i64 0, .int .i64 0, .int .i64 0, .int .i64 0]) ?_ 3 _ rfl; (with_reducible repeat (first | refine blk_drewN ?_ _ | refine blk_drew ?_ | refine blk_alloc ?_ _)); refine blk_put (cs := #[.int .i64 (-1), .int .i64 0, .int .i64 0, .int .i64 0, .int .i64 0]) ?_ 2 _ rfl; (with_reducible repeat (first | refine blk_drewN ?_ _ | refine blk_drew ?_ | refine blk_alloc ?_ _)); refine blk_put (cs := #[.int .i64 (-1), .int .i64 0, .int .i64 0, .int .i64 0, .int .i64 0]) ?_ 1 _ rfl; (with_reducible repeat (first | refine blk_drewN ?_ _ | refine blk_drew ?_ | refine blk_alloc ?_ _)); refine blk_put (cs := #[.int .i64 0, .int .i64 0, .int .i64 0, .int .i64 0, .int .i64 0]) ?_ 0 _ rfl; (with_reducible repeat (first | refine blk_drewN ?_ _ | refine blk_drew ?_ | refine blk_alloc ?_ _)); refine blk_far ?_ NB296_302.out _; (with_reducible repeat (first | refine blk_drewN ?_ _ | refine blk_drew ?_ | refine blk_alloc ?_ _)); exact BK296.out) Tryd.underlying23 rfl (by kernel_rfl)) rfl ?_
  exact ⟨by first | rfl | (simp [errW_none, errW_some] <;> rfl) | (simp [*, errW_none, errW_some] <;> rfl), by repeat (first | (with_reducible first | exact HI0.out | apply IsS118.alloc | apply IsS118.drewN | apply IsS118.drew | apply IsS118.set_1 | apply IsS118.set_2 | refine IsS118.far ?_ NB0_296.out _ | refine IsS118.far ?_ NB0_302.out _) | exact HI0.out), by repeat (first | (with_reducible first | exact HB.out | apply below_alloc | apply pw_below_drewN | apply below_drew1 | refine below_set ?_ (IsS118.ge HI0.out) | refine below_set ?_ GE296.out | refine below_set ?_ GE302.out) | exact HB.out), by repeat (first | (with_reducible first | exact HK.out | apply KeepBut.set_ | apply keep_drewN | apply keep_drew | apply keep_alloc | refine keep_far ?_ GW296.out _ | refine keep_far ?_ GW302.out _) | exact HK.out)⟩
 rw [if_neg c3] at H
 have c3b0 : ((t297.length : Int) == 0) = false := beq_eq_false_iff_ne.mpr c3
 have c3b1 : ((t297.length : Int) != 0) = true := bne_iff_ne.mpr c3
 have c3b2 : ¬ (t297 = []) := fun h_ => c3 (by rw [h_]; rfl)
 replace H := Option.bind_eq_some_iff.mp H
 obtain ⟨⟨t303, t304, t305⟩, A130, H⟩ := H
 replace H : (if 0 ≤ t303 then (if t303 < (t297.length : Int) then (some ((rd_T23 t297 t303).f0, (rd_T23 t297 t303).f1, (rd_T23 t297 t303).f2, (rd_T23 t297 t303).f3, (rd_T23 t297 t303).f4, t304, t305)) else (none)) else (none)) = some (r1, r2, r3, r4, r5, r6, r7) := H
 have A13 := Aside0.mk A130
 clear A130
 by_cases c14 : 0 ≤ t303
 case neg =>
  rw [if_neg c14] at H
  exact absurd H (by simp)
 rw [if_pos c14] at H
 have c14b0 : decide (0 ≤ t303) = true := decide_eq_true c14
 clear c14
 by_cases c15 : t303 < (t297.length : Int)
 case neg =>
  rw [if_neg c15] at H
  exact absurd H (by simp)
 rw [if_pos c15] at H
 have c15b0 : decide (t303 < (t297.length : Int)) = true := decide_eq_true c15
 clear c15
 simp only [Option.some.injEq, Prod.mk.injEq] at H
 obtain ⟨rfl, rfl, rfl, rfl, rfl, rfl, rfl⟩ := H
 go_enter Tryd.func59, Tryd.ntmps59
 try go_wp2_with (first | ((with_reducible refine gate_dst (N := 2) rfl ?_); refine box_event ?hg (N := 2) ?hd (cs := #[.int .i64 0, .int .i64 0, .int .i64 0, .int .i64 0, .int .i64 0]) (t := 23) ?hr ?_; (case hd => rfl); (case hg => rfl); (case hr => first | (go_simp; done) | (go_simp; rfl)); intro gb296 hg w16 hbox hb; have n_ := spec_l25Node.K8_ (IsS118.below (by repeat (first | (with_reducible first | exact HI0.out | apply IsS118.alloc | apply IsS118.drewN | apply IsS118.drew | apply IsS118.set_1 | apply IsS118.set_2) | exact HI0.out)) hb) (KeepBut.trans (by repeat (first | (with_reducible first | exact HK.out | apply KeepBut.set_ | apply keep_drewN | apply keep_drew | apply keep_alloc) | exact HK.out)) (KeepBut.of_below hb g none) (.inl rfl)) (below_step (by repeat (first | (with_reducible first | exact HB.out | apply below_alloc | apply pw_below_drewN | apply below_drew1 | refine below_set ?_ (IsS118.ge HI0.out)) | exact HB.out)) hb) hbox ((by rw [hg]; exact (keep_size (w := w) (g := g) (row := none) (by repeat (first | (with_reducible first | exact HK.out | apply KeepBut.set_ | apply keep_drewN | apply keep_drew | apply keep_alloc) | exact HK.out))) : w.heap.size ≤ gb296)) ((Nat.le_trans HW0.out (by rw [hg]; exact (keep_size (w := w) (g := g) (row := none) (by repeat (first | (with_reducible first | exact HK.out | apply KeepBut.set_ | apply keep_drewN | apply keep_drew | apply keep_alloc) | exact HK.out))) : w.heap.size ≤ gb296) : w0.heap.size ≤ gb296)) ((by rw [hg]; exact Nat.ne_of_lt (IsS118.lt (show IsS118 w0 _ g s0_0 s0_1 s0_2 from by repeat (first | (with_reducible first | exact HI0.out | apply IsS118.alloc | apply IsS118.drewN | apply IsS118.drew | apply IsS118.set_1 | apply IsS118.set_2) | exact HI0.out))) : g ≠ gb296)) ((by rw [hg]; exact Nat.ne_of_gt (IsS118.lt (show IsS118 w0 _ g s0_0 s0_1 s0_2 from by repeat (first | (with_reducible first | exact HI0.out | apply IsS118.alloc | apply IsS118.drewN | apply IsS118.drew | apply IsS118.set_1 | apply IsS118.set_2) | exact HI0.out))) : gb296 ≠ g)); clear HI0 HK HB; obtain ⟨HI0, HK, HB, BK296, GW296, GE296, NB0_296, NB296_0⟩ := n_; clear hb hbox hg) | ((with_reducible refine gate_callee (f := 81) rfl ?_); refine goesL_ (some 5) rfl rfl Tryd.func81 (by kernel_rfl) rfl #[.pointer (some ⟨g, 0, none⟩)] rfl (by (try simp only [List.map_toArray, List.map_cons, List.map_nil]); first | done | rfl | (simp only [List.length_drop, List.length_take]; rfl)) ?_; (with_reducible refine (spec_l17Bent.calls k g s0_0 s0_1 s0_2 t297 t300 t301 w0 _ ?side1 ?side2 A2.out).mono ?_); (case side1 => repeat (first | (with_reducible first | exact HI0.out | apply IsS118.alloc | apply IsS118.drewN | apply IsS118.drew | apply IsS118.set_1 | apply IsS118.set_2 | refine IsS118.far ?_ NB0_296.out _) | exact HI0.out)); (case side2 => repeat (first | (with_reducible first | exact HB.out | apply below_alloc | apply pw_below_drewN | apply below_drew1 | refine below_set ?_ (IsS118.ge HI0.out) | refine below_set ?_ GE296.out) | exact HB.out)); rintro e w17 ⟨v298, rfl, ho0, hi, hb, hk⟩; refine ⟨_, rfl, ?_⟩; have n_ := spec_l25Node.K5_ (KeepBut.blk hk (g' := gb296) (o := .cells #[.int .i64 0, .int .i64 0, .int .i64 0, .int .i64 0, .int .i64 0] 23 (0, 0)) (by (with_reducible repeat (first | refine blk_drewN ?_ _ | refine blk_drew ?_ | refine blk_alloc ?_ _)); exact BK296.out) NB296_0.out (by simp)) (Kd.R_lower (Kd.R_newB ho0 (g := gb296) (o := .cells #[.int .i64 0, .int .i64 0, .int .i64 0, .int .i64 0, .int .i64 0] 23 (0, 0)) (by (with_reducible repeat (first | refine blk_drewN ?_ _ | refine blk_drew ?_ | refine blk_alloc ?_ _)); exact BK296.out)) (keep_size (w := w) (g := g) (row := none) (by repeat (first | (with_reducible first | exact HK.out | apply KeepBut.set_ | apply keep_drewN | apply keep_drew | apply keep_alloc | refine keep_far ?_ GW296.out _) | exact HK.out)))) (KeepBut.trans (by repeat (first | (with_reducible first | exact HK.out | apply KeepBut.set_ | apply keep_drewN | apply keep_drew | apply keep_alloc | refine keep_far ?_ GW296.out _) | exact HK.out)) hk (.inl rfl)) hb hi; clear BK296 HK HB HI0; obtain ⟨BK296, HO299, HK, HB, HI0⟩ := n_; (try clear hb); (try clear hb2); (try clear hk); (try clear hi); (try clear ho0)) | ((with_reducible refine gate_dst (N := 3) rfl ?_); refine box_event ?hg (N := 3) ?hd (cs := #[.slice none 0 0]) (t := 65) ?hr ?_; (case hd => rfl); (case hg => rfl); (case hr => first | (go_simp; done) | (go_simp; rfl)); intro gb302 hg w18 hbox hb; have n_ := spec_l25Node.K12_ (Kd.R_below (by (with_reducible repeat (first | apply Kd.R_alloc | apply Kd.R_drewN | apply Kd.R_drew)); exact HO299.out) hb) (IsS118.below (by repeat (first | (with_reducible first | exact HI0.out | apply IsS118.alloc | apply IsS118.drewN | apply IsS118.drew | apply IsS118.set_1 | apply IsS118.set_2 | refine IsS118.far ?_ NB0_296.out _) | exact HI0.out)) hb) (blk_below (g := gb296) (o := .cells #[.int .i64 0, .int .i64 0, .int .i64 0, .int .i64 0, .int .i64 0] 23 (0, 0)) (by (with_reducible repeat (first | refine blk_drewN ?_ _ | refine blk_drew ?_ | refine blk_alloc ?_ _)); exact BK296.out) hb) (KeepBut.trans (by repeat (first | (with_reducible first | exact HK.out | apply KeepBut.set_ | apply keep_drewN | apply keep_drew | apply keep_alloc | refine keep_far ?_ GW296.out _) | exact HK.out)) (KeepBut.of_below hb g none) (.inl rfl)) (below_step (by repeat (first | (with_reducible first | exact HB.out | apply below_alloc | apply pw_below_drewN | apply below_drew1 | refine below_set ?_ (IsS118.ge HI0.out) | refine below_set ?_ GE296.out) | exact HB.out)) hb) hbox ((by rw [hg]; exact (keep_size (w := w) (g := g) (row := none) (by repeat (first | (with_reducible first | exact HK.out | apply KeepBut.set_ | apply keep_drewN | apply keep_drew | apply keep_alloc | refine keep_far ?_ GW296.out _) | exact HK.out))) : w.heap.size ≤ gb302)) ((Nat.le_trans HW0.out (by rw [hg]; exact (keep_size (w := w) (g := g) (row := none) (by repeat (first | (with_reducible first | exact HK.out | apply KeepBut.set_ | apply keep_drewN | apply keep_drew | apply keep_alloc | refine keep_far ?_ GW296.out _) | exact HK.out))) : w.heap.size ≤ gb302) : w0.heap.size ≤ gb302)) ((by rw [hg]; exact Nat.ne_of_lt (blk_lt (g := gb296) (o := .cells #[.int .i64 0, .int .i64 0, .int .i64 0, .int .i64 0, .int .i64 0] 23 (0, 0)) (by (with_reducible repeat (first | refine blk_drewN ?_ _ | refine blk_drew ?_ | refine blk_alloc ?_ _)); exact BK296.out)) : gb296 ≠ gb302)) ((by rw [hg]; exact Nat.ne_of_gt (blk_lt (g := gb296) (o := .cells #[.int .i64 0, .int .i64 0, .int .i64 0, .int .i64 0, .int .i64 0] 23 (0, 0)) (by (with_reducible repeat (first | refine blk_drewN ?_ _ | refine blk_drew ?_ | refine blk_alloc ?_ _)); exact BK296.out)) : gb302 ≠ gb296)) ((by rw [hg]; exact Nat.ne_of_lt (IsS118.lt (show IsS118 w0 _ g s0_0 t300 t301 from by repeat (first | (with_reducible first | exact HI0.out | apply IsS118.alloc | apply IsS118.drewN | apply IsS118.drew | apply IsS118.set_1 | apply IsS118.set_2 | refine IsS118.far ?_ NB0_296.out _) | exact HI0.out))) : g ≠ gb302)) ((by rw [hg]; exact Nat.ne_of_gt (IsS118.lt (show IsS118 w0 _ g s0_0 t300 t301 from by repeat (first | (with_reducible first | exact HI0.out | apply IsS118.alloc | apply IsS118.drewN | apply IsS118.drew | apply IsS118.set_1 | apply IsS118.set_2 | refine IsS118.far ?_ NB0_296.out _) | exact HI0.out))) : gb302 ≠ g)); clear HO299 HI0 BK296 HK HB; obtain ⟨HO299, HI0, BK296, HK, HB, BK302, GW302, GE302, NB296_302, NB302_296, NB0_302, NB302_0⟩ := n_; clear hb hbox hg; obtain ⟨Ao19, co19, eo19⟩ := Kd.R_slice HO299.out; subst eo19; have hnb20 := NB302_296.out; have hnc20 := NB296_302.out; have hnb21 := NB302_0.out; have hnc21 := NB0_302.out; have hcz22_0 : w18.cell? ⟨gb302, 0, none⟩ = some (.slice none 0 0) := (blk_cell BK302.out 0).trans rfl; have hfz22_0 := blk_frozen BK302.out 0))
 have n0_ : Aside0 (Kd.R k23 23 (w18.setCell ⟨gb302, 0, none⟩ (.slice Ao19 t297.length co19)) w.heap.size (fun k_ => k_ ≠ gb296) (.slice Ao19 t297.length co19) t297) := ⟨by (with_reducible repeat (first | apply Kd.R_alloc | apply Kd.R_drewN | apply Kd.R_drew)); exact Kd.R_mono (Kd.R_far (p := ⟨gb302, 0, none⟩) (Kd.R_types HO299.out BK302.out (by decide)) (fun _ hk => hk.2) (.slice Ao19 t297.length co19)) (fun _ hk => hk.1.2)⟩
 have n1_ : Aside0 ((w18.setCell ⟨gb302, 0, none⟩ (.slice Ao19 t297.length co19)).heap[gb296]? = some (.cells #[.int .i64 0, .int .i64 0, .int .i64 0, .int .i64 0, .int .i64 0] 23 (0, 0))) := ⟨by (with_reducible repeat (first | refine blk_drewN ?_ _ | refine blk_drew ?_ | refine blk_alloc ?_ _)); refine blk_far ?_ NB296_302.out _; (with_reducible repeat (first | refine blk_drewN ?_ _ | refine blk_drew ?_ | refine blk_alloc ?_ _)); exact BK296.out⟩
 have n2_ : Aside0 ((w18.setCell ⟨gb302, 0, none⟩ (.slice Ao19 t297.length co19)).heap[gb302]? = some (.cells #[.slice Ao19 t297.length co19] 65 (0, 0))) := ⟨by (with_reducible repeat (first | refine blk_drewN ?_ _ | refine blk_drew ?_ | refine blk_alloc ?_ _)); refine blk_put (cs := #[.slice none 0 0]) ?_ 0 _ rfl; (with_reducible repeat (first | refine blk_drewN ?_ _ | refine blk_drew ?_ | refine blk_alloc ?_ _)); exact BK302.out⟩
 have n3_ : Aside0 (IsS118 w0 (w18.setCell ⟨gb302, 0, none⟩ (.slice Ao19 t297.length co19)) g s0_0 t300 t301) := ⟨by repeat (first | (with_reducible first | exact HI0.out | apply IsS118.alloc | apply IsS118.drewN | apply IsS118.drew | apply IsS118.set_1 | apply IsS118.set_2 | refine IsS118.far ?_ NB0_296.out _ | refine IsS118.far ?_ NB0_302.out _) | exact HI0.out)⟩
 have n4_ : Aside0 (KeepBut w (w18.setCell ⟨gb302, 0, none⟩ (.slice Ao19 t297.length co19)) g none) := ⟨by repeat (first | (with_reducible first | exact HK.out | apply KeepBut.set_ | apply keep_drewN | apply keep_drew | apply keep_alloc | refine keep_far ?_ GW296.out _ | refine keep_far ?_ GW302.out _) | exact HK.out)⟩
 have n5_ : Aside0 (Below w0.heap.size w0 (w18.setCell ⟨gb302, 0, none⟩ (.slice Ao19 t297.length co19))) := ⟨by repeat (first | (with_reducible first | exact HB.out | apply below_alloc | apply pw_below_drewN | apply below_drew1 | refine below_set ?_ (IsS118.ge HI0.out) | refine below_set ?_ GE296.out | refine below_set ?_ GE302.out) | exact HB.out)⟩
 (try clear HO299)
 (try clear BK296)
 (try clear BK302)
 (try clear HI0)
 (try clear HK)
 (try clear HB)
 generalize (w18.setCell ⟨gb302, 0, none⟩ (.slice Ao19 t297.length co19)) = w23 at n0_ n1_ n2_ n3_ n4_ n5_ ⊢
 have HO299 := n0_
 have BK296 := n1_
 have BK302 := n2_
 have HI0 := n3_
 have HK := n4_
 have HB := n5_
 clear n0_ n1_ n2_ n3_ n4_ n5_
 have n_ := spec_l25Node.K6_ (Kd.R_drew HO299.out) (blk_drew BK296.out) (blk_drew BK302.out) (IsS118.drew HI0.out) (keep_drew HK.out) (below_drew1 HB.out)
 clear HO299 BK296 BK302 HI0 HK HB
 obtain ⟨HO299, BK296, BK302, HI0, HK, HB⟩ := n_
 have p306 : 0 ≤ (t303 : Int) := of_decide_eq_true (by first | (with_reducible assumption) | assumption)
 have q306 : t303 < (t297.length : Int) := of_decide_eq_true (by first | (with_reducible assumption) | assumption)
 obtain ⟨ad306, e306, hx306_0, hx306_1, hx306_2, hx306_3, hx306_4⟩ := at_T23 (Kd.R_reads' HO299.out).2.2 t303 p306 q306
 cases e306
 replace p306 := eq_true p306
 replace q306 := eq_true q306
 refine start_ (n := 10) (S := fun w' => w'.cell? ⟨gb302, 0, none⟩ = some (.slice (some ad306) t297.length co19) ∧ w'.cell? (ad306.add ((t303).toNat * 5)) = some (.int .i64 ((rd_T23 t297 t303).f0)) ∧ w'.cell? ⟨(ad306.add ((t303).toNat * 5)).block, (ad306.add ((t303).toNat * 5)).off + 1, none⟩ = some (.int .i64 ((rd_T23 t297 t303).f1)) ∧ w'.cell? ⟨(ad306.add ((t303).toNat * 5)).block, (ad306.add ((t303).toNat * 5)).off + 2, none⟩ = some (.int .i64 ((rd_T23 t297 t303).f2)) ∧ w'.cell? ⟨(ad306.add ((t303).toNat * 5)).block, (ad306.add ((t303).toNat * 5)).off + 3, none⟩ = some (.int .i64 ((rd_T23 t297 t303).f3)) ∧ w'.cell? ⟨(ad306.add ((t303).toNat * 5)).block, (ad306.add ((t303).toNat * 5)).off + 4, none⟩ = some (.int .i64 ((rd_T23 t297 t303).f4))) (ds := []) #[false, false, false, false, false, false, false, false, false, false] (by kernel_rfl) rfl rfl ⟨(blk_cell BK302.out 0).trans rfl, hx306_0, hx306_1, hx306_2, hx306_3, hx306_4⟩ (fun hHeld => ?_); refine with_tabW spec_l25Node.tab4 spec_l25Node.bits4 (fun HT_ HW_ => ?_)
 generalize w23.drew = w24 at HO299 BK296 BK302 HI0 HK HB hx306_0 hx306_1 hx306_2 hx306_3 hx306_4 hHeld ⊢
 refine pure_ (i := 0) (N := some 11) (v := ?_) (a' := ?_) #[true, false, false, false, false, false, false, false, false, false] rfl rfl (any_of HT_.out (by kernel_rfl)) (fun _ _ _ h => h) (Or.inl ⟨by rfl, ?_⟩) ?_ ?_
 rotate_left
 ·intro w'
  go_simp
  with_reducible rfl
 rotate_left
 ·simp only [Act.put, List.setIfInBounds_toArray, List.set_cons_zero, List.set_cons_succ, i64_w, i32_w]
  rfl
 refine pure_ (i := 2) (N := some 13) (v := ?_) (a' := ?_) #[true, false, true, false, false, false, false, false, false, false] rfl rfl (any_of HT_.out (by kernel_rfl)) (fun _ _ _ h => h) (Or.inl ⟨by rfl, ?_⟩) ?_ ?_
 rotate_left
 ·intro w'
  go_simp
  with_reducible rfl
 rotate_left
 ·simp only [Act.put, List.setIfInBounds_toArray, List.set_cons_zero, List.set_cons_succ, i64_w, i32_w]
  rfl
 refine pure_ (i := 3) (N := some 14) (v := ?_) (a' := ?_) #[true, false, true, true, false, false, false, false, false, false] rfl rfl (any_of HT_.out (by kernel_rfl)) (fun _ _ _ h => h) (Or.inl ⟨by rfl, ?_⟩) ?_ ?_
 rotate_left
 ·intro w'
  go_simp
  with_reducible rfl
 rotate_left
 ·simp only [Act.put, List.setIfInBounds_toArray, List.set_cons_zero, List.set_cons_succ, i64_w, i32_w]
  rfl
 refine take_ (i := 1) (N := some 12) (v := ?_) (a' := ?_) #[true, true, true, true, false, false, false, false, false, false] rfl rfl (take_ofW HT_.out HW_.out (by kernel_rfl)) (fun _ _ _ h => h) (Or.inl ⟨by rfl, ?_⟩) hHeld ?_ ?_
 rotate_left
 ·rintro w' ⟨s0, s1, s2, s3, s4, s5⟩
  go_simp
  with_reducible rfl
 rotate_left
 ·simp only [Act.put, List.setIfInBounds_toArray, List.set_cons_zero, List.set_cons_succ, i64_w, i32_w]
  rfl
 refine take_ (i := 4) (N := some 15) (v := ?_) (a' := ?_) #[true, true, true, true, true, false, false, false, false, false] rfl rfl (take_ofW HT_.out HW_.out (by kernel_rfl)) (fun _ _ _ h => h) (Or.inl ⟨by rfl, ?_⟩) hHeld ?_ ?_
 rotate_left
 ·rintro w' ⟨s0, s1, s2, s3, s4, s5⟩
  go_simp
  with_reducible rfl
 rotate_left
 ·simp only [Act.put, List.setIfInBounds_toArray, List.set_cons_zero, List.set_cons_succ, i64_w, i32_w]
  rfl
 refine pure_ (i := 5) (N := some 16) (v := ?_) (a' := ?_) #[true, true, true, true, true, true, false, false, false, false] rfl rfl (any_of HT_.out (by kernel_rfl)) (fun _ _ _ h => h) (Or.inl ⟨by rfl, ?_⟩) ?_ ?_
 rotate_left
 ·intro w'
  go_simp
  with_reducible rfl
 rotate_left
 ·simp only [Act.put, List.setIfInBounds_toArray, List.set_cons_zero, List.set_cons_succ, i64_w, i32_w]
  rfl
 refine one_ (i := 6) (N := some 17) #[true, true, true, true, true, true, true, false, false, false] rfl rfl (one_of HT_.out (by kernel_rfl)) (by decide) (fun K hK => ?_)
 refine goes_ Tryd.func99 (by kernel_rfl) rfl #[.pointer (some ⟨g, 0, none⟩), .int .i64 (t297.length : Int)] (by rfl) rfl rfl (by (try simp only [List.map_toArray, List.map_cons, List.map_nil]); first | done | rfl | (simp only [List.length_drop, List.length_take]; rfl)) ?_
 with_reducible refine (spec_l1Below.calls g s0_0 t300 t301 (t297.length : Int) t303 t304 t305 w0 _ ?side1 ?side2 A13.out).mono ?_
 (case side1 => repeat (first | (with_reducible first | exact HI0.out | apply IsS118.alloc | apply IsS118.drewN | apply IsS118.drew | apply IsS118.set_1 | apply IsS118.set_2 | refine IsS118.far ?_ NB0_296.out _ | refine IsS118.far ?_ NB0_302.out _) | exact HI0.out))
 (case side2 => repeat (first | (with_reducible first | exact HB.out | apply below_alloc | apply pw_below_drewN | apply below_drew1 | refine below_set ?_ (IsS118.ge HI0.out) | refine below_set ?_ GE296.out | refine below_set ?_ GE302.out) | exact HB.out))
 rintro e w25 ⟨rfl, hi, hb, hk⟩
 have HS1_ := keep_cell hk (hHeld.2.1) (by first | (rw [add_block]; exact Kd.own_blk (IsS118.own_ne HI0.out HO299.out (by decide))) | (show (Addr.add _ _).block ≠ _; rw [add_block]; exact Kd.own_blk (IsS118.own_ne HI0.out HO299.out (by decide))) | exact Kd.own_blk (IsS118.own_ne HI0.out HO299.out (by decide)))
 have HS2_ := keep_cell hk (hHeld.2.2.1) (by first | (rw [add_block]; exact Kd.own_blk (IsS118.own_ne HI0.out HO299.out (by decide))) | (show (Addr.add _ _).block ≠ _; rw [add_block]; exact Kd.own_blk (IsS118.own_ne HI0.out HO299.out (by decide))) | exact Kd.own_blk (IsS118.own_ne HI0.out HO299.out (by decide)))
 have HS3_ := keep_cell hk (hHeld.2.2.2.1) (by first | (rw [add_block]; exact Kd.own_blk (IsS118.own_ne HI0.out HO299.out (by decide))) | (show (Addr.add _ _).block ≠ _; rw [add_block]; exact Kd.own_blk (IsS118.own_ne HI0.out HO299.out (by decide))) | exact Kd.own_blk (IsS118.own_ne HI0.out HO299.out (by decide)))
 have HS4_ := keep_cell hk (hHeld.2.2.2.2.1) (by first | (rw [add_block]; exact Kd.own_blk (IsS118.own_ne HI0.out HO299.out (by decide))) | (show (Addr.add _ _).block ≠ _; rw [add_block]; exact Kd.own_blk (IsS118.own_ne HI0.out HO299.out (by decide))) | exact Kd.own_blk (IsS118.own_ne HI0.out HO299.out (by decide)))
 have HS5_ := keep_cell hk (hHeld.2.2.2.2.2) (by first | (rw [add_block]; exact Kd.own_blk (IsS118.own_ne HI0.out HO299.out (by decide))) | (show (Addr.add _ _).block ≠ _; rw [add_block]; exact Kd.own_blk (IsS118.own_ne HI0.out HO299.out (by decide))) | exact Kd.own_blk (IsS118.own_ne HI0.out HO299.out (by decide)))
 refine ⟨_, rfl, ?_⟩
 have n_ := spec_l25Node.K6_ (KeepBut.blk hk (g' := gb296) (o := .cells #[.int .i64 0, .int .i64 0, .int .i64 0, .int .i64 0, .int .i64 0] 23 (0, 0)) (by (with_reducible repeat (first | refine blk_drewN ?_ _ | refine blk_drew ?_ | refine blk_alloc ?_ _)); exact BK296.out) NB296_0.out (by simp)) (Kd.R_mono (Kd.R_keep (IsS118.apart (show IsS118 w0 _ g s0_0 t300 t301 from by repeat (first | (with_reducible first | exact HI0.out | apply IsS118.alloc | apply IsS118.drewN | apply IsS118.drew | apply IsS118.set_1 | apply IsS118.set_2 | refine IsS118.far ?_ NB0_296.out _ | refine IsS118.far ?_ NB0_302.out _) | exact HI0.out)) (by (with_reducible repeat (first | apply Kd.R_alloc | apply Kd.R_drewN | apply Kd.R_drew)); exact HO299.out) (by decide)) hk (fun _ h => h.2)) (fun _ h => h.1)) (KeepBut.blk hk (g' := gb302) (o := .cells #[.slice (some ad306) t297.length co19] 65 (0, 0)) (by (with_reducible repeat (first | refine blk_drewN ?_ _ | refine blk_drew ?_ | refine blk_alloc ?_ _)); exact BK302.out) NB302_0.out (by simp)) (KeepBut.trans (by repeat (first | (with_reducible first | exact HK.out | apply KeepBut.set_ | apply keep_drewN | apply keep_drew | apply keep_alloc | refine keep_far ?_ GW296.out _ | refine keep_far ?_ GW302.out _) | exact HK.out)) hk (.inl rfl)) hb hi
 clear BK296 HO299 BK302 HK HB HI0
 obtain ⟨BK296, HO299, BK302, HK, HB, HI0⟩ := n_
 (try clear hb)
 (try clear hb2)
 (try clear hk)
 (try clear hi)
 refine hK.out _ _ ⟨(blk_cell BK302.out 0).trans rfl, HS1_, HS2_, HS3_, HS4_, HS5_⟩ (fun hHeld => ?_)
 clear hK K
 refine norm_ (a' := ?_) ?_ ?_
 rotate_left
 ·show Act.put _ (some 17) _ = _
  simp only [Act.put, List.setIfInBounds_toArray, List.set_cons_zero, List.set_cons_succ, i64_w, i32_w]
  rfl
 refine pure_ (i := 7) (N := some 18) (v := ?_) (a' := ?_) #[true, true, true, true, true, true, true, true, false, false] rfl rfl (any_of HT_.out (by kernel_rfl)) (fun _ _ _ h => h) (Or.inl ⟨by rfl, ?_⟩) ?_ ?_
 rotate_left
 ·intro w'
  go_simp
  with_reducible rfl
 rotate_left
 ·simp only [Act.put, List.setIfInBounds_toArray, List.set_cons_zero, List.set_cons_succ, i64_w, i32_w]
  rfl
 refine take_ (i := 8) (N := some 19) (v := ?_) (a' := ?_) #[true, true, true, true, true, true, true, true, true, false] rfl rfl (take_ofW HT_.out HW_.out (by kernel_rfl)) (fun _ _ _ h => h) (Or.inl ⟨by rfl, ?_⟩) hHeld ?_ ?_
 rotate_left
 ·rintro w' ⟨s0, s1, s2, s3, s4, s5⟩
  go_simp
  with_reducible rfl
 rotate_left
 ·simp only [Act.put, List.setIfInBounds_toArray, List.set_cons_zero, List.set_cons_succ, i64_w, i32_w]
  rfl
 refine one_ (i := 9) (N := none) #[true, true, true, true, true, true, true, true, true, true] rfl rfl (one_of HT_.out (by kernel_rfl)) (by decide) (fun K hK => ?_)
 have hs26 : w25.cell? ⟨gb296, 0, none⟩ = some (.int .i64 0) := (blk_cell BK296.out 0).trans rfl
 have hfs26 := blk_frozen BK296.out 0
 have hns26_1 := NB302_296.out
 have hms26_1 := NB296_302.out
 have hs27 : w25.cell? ⟨gb296, 1, none⟩ = some (.int .i64 0) := (blk_cell BK296.out 1).trans rfl
 have hfs27 := blk_frozen BK296.out 1
 have hns27_1 := NB302_296.out
 have hms27_1 := NB296_302.out
 have hs28 : w25.cell? ⟨gb296, 2, none⟩ = some (.int .i64 0) := (blk_cell BK296.out 2).trans rfl
 have hfs28 := blk_frozen BK296.out 2
 have hns28_1 := NB302_296.out
 have hms28_1 := NB296_302.out
 have hs29 : w25.cell? ⟨gb296, 3, none⟩ = some (.int .i64 0) := (blk_cell BK296.out 3).trans rfl
 have hfs29 := blk_frozen BK296.out 3
 have hns29_1 := NB302_296.out
 have hms29_1 := NB296_302.out
 have hs30 : w25.cell? ⟨gb296, 4, none⟩ = some (.int .i64 0) := (blk_cell BK296.out 4).trans rfl
 have hfs30 := blk_frozen BK296.out 4
 have hns30_1 := NB302_296.out
 have hms30_1 := NB296_302.out
 refine skip_ (w1 := ?_) (by rfl) rfl ?_ ?_
 rotate_left
 ·go_simp
  rfl
 refine hK.out _ _ ⟨((cell_far (p := ⟨gb296, _, none⟩) NB302_296.out _).trans (((cell_far (p := ⟨gb296, _, none⟩) NB302_296.out _).trans (((cell_far (p := ⟨gb296, _, none⟩) NB302_296.out _).trans (((cell_far (p := ⟨gb296, _, none⟩) NB302_296.out _).trans (((cell_far (p := ⟨gb296, _, none⟩) NB302_296.out _).trans (hHeld.1)))))))))), ((cell_far (p := ⟨gb296, _, none⟩) (by first | exact Kd.own_blk (Kd.R_away HO299.out (fun _ hk => hk)) | (rw [add_block]; exact Kd.own_blk (Kd.R_away HO299.out (fun _ hk => hk))) | (show (Addr.add _ _).block ≠ _; rw [add_block]; exact Kd.own_blk (Kd.R_away HO299.out (fun _ hk => hk))) | (dsimp only; exact Kd.own_blk (Kd.R_away HO299.out (fun _ hk => hk)))) _).trans (((cell_far (p := ⟨gb296, _, none⟩) (by first | exact Kd.own_blk (Kd.R_away HO299.out (fun _ hk => hk)) | (rw [add_block]; exact Kd.own_blk (Kd.R_away HO299.out (fun _ hk => hk))) | (show (Addr.add _ _).block ≠ _; rw [add_block]; exact Kd.own_blk (Kd.R_away HO299.out (fun _ hk => hk))) | (dsimp only; exact Kd.own_blk (Kd.R_away HO299.out (fun _ hk => hk)))) _).trans (((cell_far (p := ⟨gb296, _, none⟩) (by first | exact Kd.own_blk (Kd.R_away HO299.out (fun _ hk => hk)) | (rw [add_block]; exact Kd.own_blk (Kd.R_away HO299.out (fun _ hk => hk))) | (show (Addr.add _ _).block ≠ _; rw [add_block]; exact Kd.own_blk (Kd.R_away HO299.out (fun _ hk => hk))) | (dsimp only; exact Kd.own_blk (Kd.R_away HO299.out (fun _ hk => hk)))) _).trans (((cell_far (p := ⟨gb296, _, none⟩) (by first | exact Kd.own_blk (Kd.R_away HO299.out (fun _ hk => hk)) | (rw [add_block]; exact Kd.own_blk (Kd.R_away HO299.out (fun _ hk => hk))) | (show (Addr.add _ _).block ≠ _; rw [add_block]; exact Kd.own_blk (Kd.R_away HO299.out (fun _ hk => hk))) | (dsimp only; exact Kd.own_blk (Kd.R_away HO299.out (fun _ hk => hk)))) _).trans (((cell_far (p := ⟨gb296, _, none⟩) (by first | exact Kd.own_blk (Kd.R_away HO299.out (fun _ hk => hk)) | (rw [add_block]; exact Kd.own_blk (Kd.R_away HO299.out (fun _ hk => hk))) | (show (Addr.add _ _).block ≠ _; rw [add_block]; exact Kd.own_blk (Kd.R_away HO299.out (fun _ hk => hk))) | (dsimp only; exact Kd.own_blk (Kd.R_away HO299.out (fun _ hk => hk)))) _).trans (hHeld.2.1)))))))))), ((cell_far (p := ⟨gb296, _, none⟩) (by first | exact Kd.own_blk (Kd.R_away HO299.out (fun _ hk => hk)) | (rw [add_block]; exact Kd.own_blk (Kd.R_away HO299.out (fun _ hk => hk))) | (show (Addr.add _ _).block ≠ _; rw [add_block]; exact Kd.own_blk (Kd.R_away HO299.out (fun _ hk => hk))) | (dsimp only; exact Kd.own_blk (Kd.R_away HO299.out (fun _ hk => hk)))) _).trans (((cell_far (p := ⟨gb296, _, none⟩) (by first | exact Kd.own_blk (Kd.R_away HO299.out (fun _ hk => hk)) | (rw [add_block]; exact Kd.own_blk (Kd.R_away HO299.out (fun _ hk => hk))) | (show (Addr.add _ _).block ≠ _; rw [add_block]; exact Kd.own_blk (Kd.R_away HO299.out (fun _ hk => hk))) | (dsimp only; exact Kd.own_blk (Kd.R_away HO299.out (fun _ hk => hk)))) _).trans (((cell_far (p := ⟨gb296, _, none⟩) (by first | exact Kd.own_blk (Kd.R_away HO299.out (fun _ hk => hk)) | (rw [add_block]; exact Kd.own_blk (Kd.R_away HO299.out (fun _ hk => hk))) | (show (Addr.add _ _).block ≠ _; rw [add_block]; exact Kd.own_blk (Kd.R_away HO299.out (fun _ hk => hk))) | (dsimp only; exact Kd.own_blk (Kd.R_away HO299.out (fun _ hk => hk)))) _).trans (((cell_far (p := ⟨gb296, _, none⟩) (by first | exact Kd.own_blk (Kd.R_away HO299.out (fun _ hk => hk)) | (rw [add_block]; exact Kd.own_blk (Kd.R_away HO299.out (fun _ hk => hk))) | (show (Addr.add _ _).block ≠ _; rw [add_block]; exact Kd.own_blk (Kd.R_away HO299.out (fun _ hk => hk))) | (dsimp only; exact Kd.own_blk (Kd.R_away HO299.out (fun _ hk => hk)))) _).trans (((cell_far (p := ⟨gb296, _, none⟩) (by first | exact Kd.own_blk (Kd.R_away HO299.out (fun _ hk => hk)) | (rw [add_block]; exact Kd.own_blk (Kd.R_away HO299.out (fun _ hk => hk))) | (show (Addr.add _ _).block ≠ _; rw [add_block]; exact Kd.own_blk (Kd.R_away HO299.out (fun _ hk => hk))) | (dsimp only; exact Kd.own_blk (Kd.R_away HO299.out (fun _ hk => hk)))) _).trans (hHeld.2.2.1)))))))))), ((cell_far (p := ⟨gb296, _, none⟩) (by first | exact Kd.own_blk (Kd.R_away HO299.out (fun _ hk => hk)) | (rw [add_block]; exact Kd.own_blk (Kd.R_away HO299.out (fun _ hk => hk))) | (show (Addr.add _ _).block ≠ _; rw [add_block]; exact Kd.own_blk (Kd.R_away HO299.out (fun _ hk => hk))) | (dsimp only; exact Kd.own_blk (Kd.R_away HO299.out (fun _ hk => hk)))) _).trans (((cell_far (p := ⟨gb296, _, none⟩) (by first | exact Kd.own_blk (Kd.R_away HO299.out (fun _ hk => hk)) | (rw [add_block]; exact Kd.own_blk (Kd.R_away HO299.out (fun _ hk => hk))) | (show (Addr.add _ _).block ≠ _; rw [add_block]; exact Kd.own_blk (Kd.R_away HO299.out (fun _ hk => hk))) | (dsimp only; exact Kd.own_blk (Kd.R_away HO299.out (fun _ hk => hk)))) _).trans (((cell_far (p := ⟨gb296, _, none⟩) (by first | exact Kd.own_blk (Kd.R_away HO299.out (fun _ hk => hk)) | (rw [add_block]; exact Kd.own_blk (Kd.R_away HO299.out (fun _ hk => hk))) | (show (Addr.add _ _).block ≠ _; rw [add_block]; exact Kd.own_blk (Kd.R_away HO299.out (fun _ hk => hk))) | (dsimp only; exact Kd.own_blk (Kd.R_away HO299.out (fun _ hk => hk)))) _).trans (((cell_far (p := ⟨gb296, _, none⟩) (by first | exact Kd.own_blk (Kd.R_away HO299.out (fun _ hk => hk)) | (rw [add_block]; exact Kd.own_blk (Kd.R_away HO299.out (fun _ hk => hk))) | (show (Addr.add _ _).block ≠ _; rw [add_block]; exact Kd.own_blk (Kd.R_away HO299.out (fun _ hk => hk))) | (dsimp only; exact Kd.own_blk (Kd.R_away HO299.out (fun _ hk => hk)))) _).trans (((cell_far (p := ⟨gb296, _, none⟩) (by first | exact Kd.own_blk (Kd.R_away HO299.out (fun _ hk => hk)) | (rw [add_block]; exact Kd.own_blk (Kd.R_away HO299.out (fun _ hk => hk))) | (show (Addr.add _ _).block ≠ _; rw [add_block]; exact Kd.own_blk (Kd.R_away HO299.out (fun _ hk => hk))) | (dsimp only; exact Kd.own_blk (Kd.R_away HO299.out (fun _ hk => hk)))) _).trans (hHeld.2.2.2.1)))))))))), ((cell_far (p := ⟨gb296, _, none⟩) (by first | exact Kd.own_blk (Kd.R_away HO299.out (fun _ hk => hk)) | (rw [add_block]; exact Kd.own_blk (Kd.R_away HO299.out (fun _ hk => hk))) | (show (Addr.add _ _).block ≠ _; rw [add_block]; exact Kd.own_blk (Kd.R_away HO299.out (fun _ hk => hk))) | (dsimp only; exact Kd.own_blk (Kd.R_away HO299.out (fun _ hk => hk)))) _).trans (((cell_far (p := ⟨gb296, _, none⟩) (by first | exact Kd.own_blk (Kd.R_away HO299.out (fun _ hk => hk)) | (rw [add_block]; exact Kd.own_blk (Kd.R_away HO299.out (fun _ hk => hk))) | (show (Addr.add _ _).block ≠ _; rw [add_block]; exact Kd.own_blk (Kd.R_away HO299.out (fun _ hk => hk))) | (dsimp only; exact Kd.own_blk (Kd.R_away HO299.out (fun _ hk => hk)))) _).trans (((cell_far (p := ⟨gb296, _, none⟩) (by first | exact Kd.own_blk (Kd.R_away HO299.out (fun _ hk => hk)) | (rw [add_block]; exact Kd.own_blk (Kd.R_away HO299.out (fun _ hk => hk))) | (show (Addr.add _ _).block ≠ _; rw [add_block]; exact Kd.own_blk (Kd.R_away HO299.out (fun _ hk => hk))) | (dsimp only; exact Kd.own_blk (Kd.R_away HO299.out (fun _ hk => hk)))) _).trans (((cell_far (p := ⟨gb296, _, none⟩) (by first | exact Kd.own_blk (Kd.R_away HO299.out (fun _ hk => hk)) | (rw [add_block]; exact Kd.own_blk (Kd.R_away HO299.out (fun _ hk => hk))) | (show (Addr.add _ _).block ≠ _; rw [add_block]; exact Kd.own_blk (Kd.R_away HO299.out (fun _ hk => hk))) | (dsimp only; exact Kd.own_blk (Kd.R_away HO299.out (fun _ hk => hk)))) _).trans (((cell_far (p := ⟨gb296, _, none⟩) (by first | exact Kd.own_blk (Kd.R_away HO299.out (fun _ hk => hk)) | (rw [add_block]; exact Kd.own_blk (Kd.R_away HO299.out (fun _ hk => hk))) | (show (Addr.add _ _).block ≠ _; rw [add_block]; exact Kd.own_blk (Kd.R_away HO299.out (fun _ hk => hk))) | (dsimp only; exact Kd.own_blk (Kd.R_away HO299.out (fun _ hk => hk)))) _).trans (hHeld.2.2.2.2.1)))))))))), ((cell_far (p := ⟨gb296, _, none⟩) (by first | exact Kd.own_blk (Kd.R_away HO299.out (fun _ hk => hk)) | (rw [add_block]; exact Kd.own_blk (Kd.R_away HO299.out (fun _ hk => hk))) | (show (Addr.add _ _).block ≠ _; rw [add_block]; exact Kd.own_blk (Kd.R_away HO299.out (fun _ hk => hk))) | (dsimp only; exact Kd.own_blk (Kd.R_away HO299.out (fun _ hk => hk)))) _).trans (((cell_far (p := ⟨gb296, _, none⟩) (by first | exact Kd.own_blk (Kd.R_away HO299.out (fun _ hk => hk)) | (rw [add_block]; exact Kd.own_blk (Kd.R_away HO299.out (fun _ hk => hk))) | (show (Addr.add _ _).block ≠ _; rw [add_block]; exact Kd.own_blk (Kd.R_away HO299.out (fun _ hk => hk))) | (dsimp only; exact Kd.own_blk (Kd.R_away HO299.out (fun _ hk => hk)))) _).trans (((cell_far (p := ⟨gb296, _, none⟩) (by first | exact Kd.own_blk (Kd.R_away HO299.out (fun _ hk => hk)) | (rw [add_block]; exact Kd.own_blk (Kd.R_away HO299.out (fun _ hk => hk))) | (show (Addr.add _ _).block ≠ _; rw [add_block]; exact Kd.own_blk (Kd.R_away HO299.out (fun _ hk => hk))) | (dsimp only; exact Kd.own_blk (Kd.R_away HO299.out (fun _ hk => hk)))) _).trans (((cell_far (p := ⟨gb296, _, none⟩) (by first | exact Kd.own_blk (Kd.R_away HO299.out (fun _ hk => hk)) | (rw [add_block]; exact Kd.own_blk (Kd.R_away HO299.out (fun _ hk => hk))) | (show (Addr.add _ _).block ≠ _; rw [add_block]; exact Kd.own_blk (Kd.R_away HO299.out (fun _ hk => hk))) | (dsimp only; exact Kd.own_blk (Kd.R_away HO299.out (fun _ hk => hk)))) _).trans (((cell_far (p := ⟨gb296, _, none⟩) (by first | exact Kd.own_blk (Kd.R_away HO299.out (fun _ hk => hk)) | (rw [add_block]; exact Kd.own_blk (Kd.R_away HO299.out (fun _ hk => hk))) | (show (Addr.add _ _).block ≠ _; rw [add_block]; exact Kd.own_blk (Kd.R_away HO299.out (fun _ hk => hk))) | (dsimp only; exact Kd.own_blk (Kd.R_away HO299.out (fun _ hk => hk)))) _).trans (hHeld.2.2.2.2.2))))))))))⟩ (fun hHeld => ?_)
 clear hK K
 refine done_ (done_of HT_.out (by kernel_rfl)) ?_
 try go_wp2
 refine bodyPost_ret (results_cell_row rfl _ _ gb296 23 #[.int .i64 ((rd_T23 t297 t303).f0), .int .i64 ((rd_T23 t297 t303).f1), .int .i64 ((rd_T23 t297 t303).f2), .int .i64 ((rd_T23 t297 t303).f3), .int .i64 ((rd_T23 t297 t303).f4)] (0, 0) _ rfl (by (with_reducible repeat (first | refine blk_drewN ?_ _ | refine blk_drew ?_ | refine blk_alloc ?_ _)); refine blk_put (cs := #[.int .i64 ((rd_T23 t297 t303).f0), .int .i64 ((rd_T23 t297 t303).f1), .int .i64 ((rd_T23 t297 t303).f2), .int .i64 ((rd_T23 t297 t303).f3), .int .i64 0]) ?_ 4 _ rfl; (with_reducible repeat (first | refine blk_drewN ?_ _ | refine blk_drew ?_ | refine blk_alloc ?_ _)); refine blk_put (cs := #[.int .i64 ((rd_T23 t297 t303).f0), .int .i64 ((rd_T23 t297 t303).f1), .int .i64 ((rd_T23 t297 t303).f2), .int .i64 0, .int .i64 0]) ?_ 3 _ rfl; (with_reducible repeat (first | refine blk_drewN ?_ _ | refine blk_drew ?_ | refine blk_alloc ?_ _)); refine blk_put (cs := #[.int .i64 ((rd_T23 t297 t303).f0), .int .i64 ((rd_T23 t297 t303).f1), .int .i64 0, .int .i64 0, .int .i64 0]) ?_ 2 _ rfl; (with_reducible repeat (first | refine blk_drewN ?_ _ | refine blk_drew ?_ | refine blk_alloc ?_ _)); refine blk_put (cs := #[.int .i64 ((rd_T23 t297 t303).f0), .int .i64 0, .int .i64 0, .int .i64 0, .int .i64 0]) ?_ 1 _ rfl; (with_reducible repeat (first | refine blk_drewN ?_ _ | refine blk_drew ?_ | refine blk_alloc ?_ _)); refine blk_put (cs := #[.int .i64 0, .int .i64 0, .int .i64 0, .int .i64 0, .int .i64 0]) ?_ 0 _ rfl; (with_reducible repeat (first | refine blk_drewN ?_ _ | refine blk_drew ?_ | refine blk_alloc ?_ _)); exact BK296.out) Tryd.underlying23 rfl (by kernel_rfl)) rfl ?_
 exact ⟨by first | rfl | (simp [errW_none, errW_some] <;> rfl) | (simp [*, errW_none, errW_some] <;> rfl), by repeat (first | (with_reducible first | exact HI0.out | apply IsS118.alloc | apply IsS118.drewN | apply IsS118.drew | apply IsS118.set_1 | apply IsS118.set_2 | refine IsS118.far ?_ NB0_296.out _ | refine IsS118.far ?_ NB0_302.out _) | exact HI0.out), by repeat (first | (with_reducible first | exact HB.out | apply below_alloc | apply pw_below_drewN | apply below_drew1 | refine below_set ?_ (IsS118.ge HI0.out) | refine below_set ?_ GE296.out | refine below_set ?_ GE302.out) | exact HB.out), by repeat (first | (with_reducible first | exact HK.out | apply KeepBut.set_ | apply keep_drewN | apply keep_drew | apply keep_alloc | refine keep_far ?_ GW296.out _ | refine keep_far ?_ GW302.out _) | exact HK.out)⟩
def spec_DrawNodeText.f (k : Nat) (l0 : List Int) : Option (Int × Int × Int × Int × Int) := (spec_l1New.f k l0).bind fun bt308 => ((spec_l25Node.f k bt308.1 bt308.2.1 bt308.2.2).bind fun bt312 => (some (bt312.1, bt312.2.1, bt312.2.2.1, bt312.2.2.2.1, bt312.2.2.2.2.1)))
set_option maxHeartbeats 8000000 in
set_option maxRecDepth 100000 in
theorem spec_DrawNodeText.calls (k : Nat) (A0 : Option Addr) (c0 : Nat) (l0 : List Int) (r1 : Int) (r2 : Int) (r3 : Int) (r4 : Int) (r5 : Int) (w : World) (hr0 : Kd.C (Kd.int .u8) w A0 l0.length l0) (hc0 : l0.length ≤ c0) (h : spec_DrawNodeText.f k l0 = some (r1, r2, r3, r4, r5)) :
    Calls Tryd.prog 18 #[.slice A0 l0.length c0] w fun e w' => e = .returned (.agg #[.int .i64 r1, .int .i64 r2, .int .i64 r3, .int .i64 r4, .int .i64 r5]) ∧ Below w.heap.size w w' := by
 have hu23 := Tryd.underlying23
 have HR0 := Aside0.mk hr0
 have HC0 := Aside0.mk hc0
 clear hr0 hc0
 have HB := Aside0.mk (Below.refl w.heap.size w)
 have H : ((spec_l1New.f k l0).bind fun bt308 => ((spec_l25Node.f k bt308.1 bt308.2.1 bt308.2.2).bind fun bt312 => (some (bt312.1, bt312.2.1, bt312.2.2.1, bt312.2.2.2.1, bt312.2.2.2.2.1)))) = some (r1, r2, r3, r4, r5) := h
 clear h
 replace H := Option.bind_eq_some_iff.mp H
 obtain ⟨⟨t308, t309, t310⟩, A20, H⟩ := H
 replace H : ((spec_l25Node.f k t308 t309 t310).bind fun bt312 => (some (bt312.1, bt312.2.1, bt312.2.2.1, bt312.2.2.2.1, bt312.2.2.2.2.1))) = some (r1, r2, r3, r4, r5) := H
 have A2 := Aside0.mk A20
 clear A20
 replace H := Option.bind_eq_some_iff.mp H
 obtain ⟨⟨t312, t313, t314, t315, t316, t317, t318⟩, A30, H⟩ := H
 replace H : (some (t312, t313, t314, t315, t316)) = some (r1, r2, r3, r4, r5) := H
 have A3 := Aside0.mk A30
 clear A30
 simp only [Option.some.injEq, Prod.mk.injEq] at H
 obtain ⟨rfl, rfl, rfl, rfl, rfl⟩ := H
 go_enter Tryd.func18, Tryd.ntmps18
 go_wp2_with (first | ((with_reducible refine gate_dst (N := 2) rfl ?_); refine box_event ?hg (N := 2) ?hd (cs := #[.int .i64 0, .int .i64 0, .int .i64 0, .int .i64 0, .int .i64 0]) (t := 23) ?hr ?_; (case hd => rfl); (case hg => rfl); (case hr => first | (go_simp; done) | (go_simp; rfl)); intro gb307 hg w4 hbox hb; have n_ := spec_l25Node.K4_ (below_step (by repeat (first | (with_reducible first | exact HB.out | apply below_alloc | apply pw_below_drewN | apply below_drew1) | exact HB.out)) hb) hbox ((by rw [hg]; exact (below_size (by repeat (first | (with_reducible first | exact HB.out | apply below_alloc | apply pw_below_drewN | apply below_drew1) | exact HB.out))) : w.heap.size ≤ gb307)) ((by rw [hg]; exact (below_size (by repeat (first | (with_reducible first | exact HB.out | apply below_alloc | apply pw_below_drewN | apply below_drew1) | exact HB.out))) : w.heap.size ≤ gb307)); clear HB; obtain ⟨HB, BK307, GW307, GE307⟩ := n_; clear hb hbox hg) | ((with_reducible refine gate_callee (f := 60) rfl ?_); refine goesL_ (some 4) rfl rfl Tryd.func60 (by kernel_rfl) rfl #[.slice A0 l0.length c0] rfl (by (try simp only [List.map_toArray, List.map_cons, List.map_nil]); first | done | rfl | (simp only [List.length_drop, List.length_take]; rfl)) ?_; (with_reducible refine (spec_l1New.calls k _ _ l0 t308 t309 t310 w _ ?side1 ?side2 ?side3 A2.out).mono ?_); (case side1 => repeat (first | (with_reducible first | exact HB.out | apply below_alloc | apply pw_below_drewN | apply below_drew1 | refine below_set ?_ GE307.out) | exact HB.out)); (case side2 => exact HR0.out); (case side3 => exact HC0.out); rintro e w5 ⟨g311, rfl, hi, hb, hb2⟩; refine ⟨_, rfl, ?_⟩; have n_ := spec_l25Node.K5_ (blk_below (g := gb307) (o := .cells #[.int .i64 0, .int .i64 0, .int .i64 0, .int .i64 0, .int .i64 0] 23 (0, 0)) (by (with_reducible repeat (first | refine blk_drewN ?_ _ | refine blk_drew ?_ | refine blk_alloc ?_ _)); exact BK307.out) hb2) hb hi (IsS118.ne_blk hi (blk_below (g := gb307) (o := .cells #[.int .i64 0, .int .i64 0, .int .i64 0, .int .i64 0, .int .i64 0] 23 (0, 0)) (by (with_reducible repeat (first | refine blk_drewN ?_ _ | refine blk_drew ?_ | refine blk_alloc ?_ _)); exact BK307.out) hb2) (by decide)) (Ne.symm (IsS118.ne_blk hi (blk_below (g := gb307) (o := .cells #[.int .i64 0, .int .i64 0, .int .i64 0, .int .i64 0, .int .i64 0] 23 (0, 0)) (by (with_reducible repeat (first | refine blk_drewN ?_ _ | refine blk_drew ?_ | refine blk_alloc ?_ _)); exact BK307.out) hb2) (by decide))); clear BK307 HB; obtain ⟨BK307, HB, HI311, NB311_307, NB307_311⟩ := n_; (try clear hb); (try clear hb2); (try clear hk); (try clear hi)) | ((with_reducible refine gate_callee (f := 59) rfl ?_); refine goesL_ (some 5) rfl rfl Tryd.func59 (by kernel_rfl) rfl #[.pointer (some ⟨g311, 0, none⟩)] rfl (by (try simp only [List.map_toArray, List.map_cons, List.map_nil]); first | done | rfl | (simp only [List.length_drop, List.length_take]; rfl)) ?_; (with_reducible refine (spec_l25Node.calls k g311 t308 t309 t310 t312 t313 t314 t315 t316 t317 t318 w _ ?side1 ?side2 A3.out).mono ?_); (case side1 => repeat (first | (with_reducible first | exact HI311.out | apply IsS118.alloc | apply IsS118.drewN | apply IsS118.drew | apply IsS118.set_1 | apply IsS118.set_2 | refine IsS118.far ?_ NB311_307.out _) | exact HI311.out)); (case side2 => repeat (first | (with_reducible first | exact HB.out | apply below_alloc | apply pw_below_drewN | apply below_drew1 | refine below_set ?_ (IsS118.ge HI311.out) | refine below_set ?_ GE307.out) | exact HB.out)); rintro e w6 ⟨rfl, hi, hb, hk⟩; refine ⟨_, rfl, ?_⟩; have n_ := spec_l25Node.K3_ (KeepBut.blk hk (g' := gb307) (o := .cells #[.int .i64 0, .int .i64 0, .int .i64 0, .int .i64 0, .int .i64 0] 23 (0, 0)) (by (with_reducible repeat (first | refine blk_drewN ?_ _ | refine blk_drew ?_ | refine blk_alloc ?_ _)); exact BK307.out) NB307_311.out (by simp)) hb hi; clear BK307 HB HI311; obtain ⟨BK307, HB, HI311⟩ := n_; (try clear hb); (try clear hb2); (try clear hk); (try clear hi); have hnb7 := NB307_311.out; have hnc7 := NB311_307.out; have hcz8_0 : w6.cell? ⟨gb307, 0, none⟩ = some (.int .i64 0) := (blk_cell BK307.out 0).trans rfl; have hcz8_1 : w6.cell? ⟨gb307, 1, none⟩ = some (.int .i64 0) := (blk_cell BK307.out 1).trans rfl; have hcz8_2 : w6.cell? ⟨gb307, 2, none⟩ = some (.int .i64 0) := (blk_cell BK307.out 2).trans rfl; have hcz8_3 : w6.cell? ⟨gb307, 3, none⟩ = some (.int .i64 0) := (blk_cell BK307.out 3).trans rfl; have hcz8_4 : w6.cell? ⟨gb307, 4, none⟩ = some (.int .i64 0) := (blk_cell BK307.out 4).trans rfl; have hfz8_0 := blk_frozen BK307.out 0; have hfz8_1 := blk_frozen BK307.out 1; have hfz8_2 := blk_frozen BK307.out 2; have hfz8_3 := blk_frozen BK307.out 3; have hfz8_4 := blk_frozen BK307.out 4))
 refine bodyPost_ret (results_cell_row rfl _ _ gb307 23 #[.int .i64 t312, .int .i64 t313, .int .i64 t314, .int .i64 t315, .int .i64 t316] (0, 0) _ rfl (by (with_reducible repeat (first | refine blk_drewN ?_ _ | refine blk_drew ?_ | refine blk_alloc ?_ _)); refine blk_put (cs := #[.int .i64 t312, .int .i64 t313, .int .i64 t314, .int .i64 t315, .int .i64 0]) ?_ 4 _ rfl; (with_reducible repeat (first | refine blk_drewN ?_ _ | refine blk_drew ?_ | refine blk_alloc ?_ _)); refine blk_put (cs := #[.int .i64 t312, .int .i64 t313, .int .i64 t314, .int .i64 0, .int .i64 0]) ?_ 3 _ rfl; (with_reducible repeat (first | refine blk_drewN ?_ _ | refine blk_drew ?_ | refine blk_alloc ?_ _)); refine blk_put (cs := #[.int .i64 t312, .int .i64 t313, .int .i64 0, .int .i64 0, .int .i64 0]) ?_ 2 _ rfl; (with_reducible repeat (first | refine blk_drewN ?_ _ | refine blk_drew ?_ | refine blk_alloc ?_ _)); refine blk_put (cs := #[.int .i64 t312, .int .i64 0, .int .i64 0, .int .i64 0, .int .i64 0]) ?_ 1 _ rfl; (with_reducible repeat (first | refine blk_drewN ?_ _ | refine blk_drew ?_ | refine blk_alloc ?_ _)); refine blk_put (cs := #[.int .i64 0, .int .i64 0, .int .i64 0, .int .i64 0, .int .i64 0]) ?_ 0 _ rfl; (with_reducible repeat (first | refine blk_drewN ?_ _ | refine blk_drew ?_ | refine blk_alloc ?_ _)); exact BK307.out) Tryd.underlying23 rfl (by kernel_rfl)) rfl ?_
 exact ⟨by first | rfl | (simp [errW_none, errW_some] <;> rfl) | (simp [*, errW_none, errW_some] <;> rfl), by repeat (first | (with_reducible first | exact HB.out | apply below_alloc | apply pw_below_drewN | apply below_drew1 | refine below_set ?_ (IsS118.ge HI311.out) | refine below_set ?_ GE307.out) | exact HB.out)⟩
def impl_isLeaf.f (a0_0 : Int) (a0_1 : Int) (a0_2 : Int) (a0_3 : Int) (a0_4 : Int) : Option (Bool) := some (a0_0 == (-1))
set_option maxHeartbeats 8000000 in
set_option maxRecDepth 100000 in
theorem impl_isLeaf.calls (a0_0 : Int) (a0_1 : Int) (a0_2 : Int) (a0_3 : Int) (a0_4 : Int) (r : Bool) (w : World) (h : impl_isLeaf.f a0_0 a0_1 a0_2 a0_3 a0_4 = some r) :
    Calls Tryd.prog 61 #[.agg #[.int .i64 a0_0, .int .i64 a0_1, .int .i64 a0_2, .int .i64 a0_3, .int .i64 a0_4]] w fun e w' => e = .returned (.bool r) ∧ Below w.heap.size w w' := by
 have hu23 := Tryd.underlying23
 have HB := Aside0.mk (Below.refl w.heap.size w)
 have H : (some (a0_0 == (-1))) = some r := h
 clear h
 obtain rfl := Option.some.inj H
 go_enter Tryd.func61, Tryd.ntmps61
 go_wp2_with (first | ((with_reducible refine gate_dst (N := 1) rfl ?_); refine box_event ?hg (N := 1) ?hd (cs := #[.int .i64 a0_0, .int .i64 a0_1, .int .i64 a0_2, .int .i64 a0_3, .int .i64 a0_4]) (t := 23) ?hr ?_; (case hd => rfl); (case hg => rfl); (case hr => first | (go_simp; done) | (go_simp; rfl)); intro gb319 hg w2 hbox hb; have n_ := spec_l25Node.K4_ (below_step (by repeat (first | (with_reducible first | exact HB.out | apply below_alloc | apply pw_below_drewN | apply below_drew1) | exact HB.out)) hb) hbox ((by rw [hg]; exact (below_size (by repeat (first | (with_reducible first | exact HB.out | apply below_alloc | apply pw_below_drewN | apply below_drew1) | exact HB.out))) : w.heap.size ≤ gb319)) ((by rw [hg]; exact (below_size (by repeat (first | (with_reducible first | exact HB.out | apply below_alloc | apply pw_below_drewN | apply below_drew1) | exact HB.out))) : w.heap.size ≤ gb319)); clear HB; obtain ⟨HB, BK319, GW319, GE319⟩ := n_; clear hb hbox hg; have hcz3_0 : w2.cell? ⟨gb319, 0, none⟩ = some (.int .i64 a0_0) := (blk_cell BK319.out 0).trans rfl; have hcz3_1 : w2.cell? ⟨gb319, 1, none⟩ = some (.int .i64 a0_1) := (blk_cell BK319.out 1).trans rfl; have hcz3_2 : w2.cell? ⟨gb319, 2, none⟩ = some (.int .i64 a0_2) := (blk_cell BK319.out 2).trans rfl; have hcz3_3 : w2.cell? ⟨gb319, 3, none⟩ = some (.int .i64 a0_3) := (blk_cell BK319.out 3).trans rfl; have hcz3_4 : w2.cell? ⟨gb319, 4, none⟩ = some (.int .i64 a0_4) := (blk_cell BK319.out 4).trans rfl; have hfz3_0 := blk_frozen BK319.out 0; have hfz3_1 := blk_frozen BK319.out 1; have hfz3_2 := blk_frozen BK319.out 2; have hfz3_3 := blk_frozen BK319.out 3; have hfz3_4 := blk_frozen BK319.out 4))
 go_ret
 exact ⟨by first | rfl | (simp [errW_none, errW_some] <;> rfl) | (simp [*, errW_none, errW_some] <;> rfl), by repeat (first | (with_reducible first | exact HB.out | apply below_alloc | apply pw_below_drewN | apply below_drew1 | refine below_set ?_ GE319.out) | exact HB.out)⟩
def strconv_Itoa_98.f (a0 : Int) : Option ByteArray := if int64B a0 then some ⟨(Lib.itoa a0).toArray⟩ else none
theorem itoa_val (n : Int) (h : int64B n) : strconv_Itoa_98.f n = some ⟨(Lib.itoa n).toArray⟩ := if_pos h
theorem strconv_Itoa_98.calls (a0 : Int) (r : ByteArray) (w : World) (hT : TabW w) (h : strconv_Itoa_98.f a0 = some r) :
    Calls Tryd.prog 98 #[.int .i64 a0] w fun e w' => e = .returned (.string r) ∧ Below w.heap.size w w' := by
 unfold strconv_Itoa_98.f at h
 by_cases hi : int64B a0
 case neg =>
  rw [if_neg hi] at h
  cases h
 rw [if_pos hi] at h
 obtain rfl := Option.some.inj h
 refine (Tryd.strconv_Itoa a0 hi.1 hi.2 w (tabW_pow hT)).mono ?_
 rintro e w' ⟨rfl, k, os, rfl⟩
 exact ⟨rfl, Lib.below_grow _ w (Nat.le_refl _) k os⟩
def impl_Digits.f (a0 : Int) : Option (ByteArray) := (strconv_Itoa_98.f a0).bind fun t320 => (some t320)
set_option maxHeartbeats 8000000 in
set_option maxRecDepth 100000 in
theorem impl_Digits.calls (a0 : Int) (r : ByteArray) (w : World) (hT : TabW w) (h : impl_Digits.f a0 = some r) :
    Calls Tryd.prog 56 #[.int .i64 a0] w fun e w' => e = .returned (.string r) ∧ Below w.heap.size w w' := by
 have HB := Aside0.mk (Below.refl w.heap.size w)
 have HT := Aside0.mk hT
 clear hT
 have H : ((strconv_Itoa_98.f a0).bind fun t320 => (some t320)) = some r := h
 clear h
 replace H := Option.bind_eq_some_iff.mp H
 obtain ⟨t320, A20, H⟩ := H
 replace H : (some t320) = some r := H
 have A2 := Aside0.mk A20
 clear A20
 obtain rfl := Option.some.inj H
 go_enter Tryd.func56, Tryd.ntmps56
 go_wp2_with (first | ((with_reducible refine gate_callee (f := 98) rfl ?_); refine goesL_ (some 4) rfl rfl Tryd.func98 (by kernel_rfl) rfl #[.int .i64 a0] rfl (by (try simp only [List.map_toArray, List.map_cons, List.map_nil]); first | done | rfl | (simp only [List.length_drop, List.length_take]; rfl)) ?_; (with_reducible refine (strconv_Itoa_98.calls a0 t320 _ ?side1 A2.out).mono ?_); (case side1 => exact tab_below HT.out (by repeat (first | (with_reducible first | exact HB.out | apply below_alloc | apply pw_below_drewN | apply below_drew1) | exact HB.out))); rintro e w3 ⟨rfl, hb⟩; refine ⟨_, rfl, ?_⟩; replace HB := Aside0.mk (below_step (by repeat (first | (with_reducible first | exact HB.out | apply below_alloc | apply pw_below_drewN | apply below_drew1) | exact HB.out)) hb); (try clear hb); (try clear hb2); (try clear hk); (try clear hi)))
 go_ret
 exact ⟨by first | rfl | (simp [errW_none, errW_some] <;> rfl) | (simp [*, errW_none, errW_some] <;> rfl), by repeat (first | (with_reducible first | exact HB.out | apply below_alloc | apply pw_below_drewN | apply below_drew1) | exact HB.out)⟩
def impl_within.f (a0 : Int) (a1 : Int) (a2 : Int) : Option (Bool) := if a0 ≥ a1 then (some (decide (a0 ≤ a2))) else (some false)
set_option maxHeartbeats 8000000 in
set_option maxRecDepth 100000 in
theorem impl_within.calls (a0 : Int) (a1 : Int) (a2 : Int) (r : Bool) (w : World) (h : impl_within.f a0 a1 a2 = some r) :
    Calls Tryd.prog 62 #[.int .i64 a0, .int .i64 a1, .int .i64 a2] w fun e w' => e = .returned (.bool r) ∧ Drawn0 w w' := by
 have H : (if a0 ≥ a1 then (some (decide (a0 ≤ a2))) else (some false)) = some r := h
 clear h
 by_cases c4 : a0 ≥ a1
 case neg =>
  rw [if_neg c4] at H
  have c4b0 : decide (a1 ≤ a0) = false := decide_eq_false c4
  clear c4
  obtain rfl := Option.some.inj H
  go_enter Tryd.func62, Tryd.ntmps62
  go_wp2
  go_ret
  exact ⟨by first | rfl | (simp; done) | (simp [*]; done), by repeat (first | exact Drawn0.refl _ | apply Drawn0.step)⟩
 rw [if_pos c4] at H
 have c4b0 : decide (a1 ≤ a0) = true := decide_eq_true c4
 clear c4
 obtain rfl := Option.some.inj H
 go_enter Tryd.func62, Tryd.ntmps62
 go_wp2
 go_ret
 exact ⟨by first | rfl | (simp; done) | (simp [*]; done), by repeat (first | exact Drawn0.refl _ | apply Drawn0.step)⟩
def impl_isDecimal.f (a0 : Int) : Option (Bool) := (impl_within.f a0 (-2147483647) 2147483647).bind fun t321 => (some t321)
set_option maxHeartbeats 8000000 in
set_option maxRecDepth 100000 in
theorem impl_isDecimal.calls (a0 : Int) (r : Bool) (w : World) (h : impl_isDecimal.f a0 = some r) :
    Calls Tryd.prog 63 #[.int .i64 a0] w fun e w' => e = .returned (.bool r) ∧ Drawn0 w w' := by
 have H : ((impl_within.f a0 (-2147483647) 2147483647).bind fun t321 => (some t321)) = some r := h
 clear h
 replace H := Option.bind_eq_some_iff.mp H
 obtain ⟨t321, A20, H⟩ := H
 replace H : (some t321) = some r := H
 have A2 := Aside0.mk A20
 clear A20
 obtain rfl := Option.some.inj H
 go_enter Tryd.func63, Tryd.ntmps63
 go_wp2_with (first | ((with_reducible refine gate_callee (f := 62) rfl ?_); refine goesL_ (some 4) rfl rfl Tryd.func62 (by kernel_rfl) rfl #[.int .i64 a0, .int .i64 (-2147483647), .int .i64 2147483647] rfl (by (try simp only [List.map_toArray, List.map_cons, List.map_nil]); first | done | rfl | (simp only [List.length_drop, List.length_take]; rfl)) ?_; (with_reducible refine (impl_within.calls a0 (-2147483647) 2147483647 t321 _ A2.out).mono ?_); rintro e w' ⟨rfl, ⟨nd, rfl⟩⟩; refine ⟨_, rfl, ?_⟩))
 go_ret
 exact ⟨by first | rfl | (simp; done) | (simp [*]; done), by repeat (first | exact Drawn0.refl _ | apply Drawn0.step)⟩
end Go.Proofs.YtcgmdpnhlkbpbaaDoor.XFnNodeText
