import Derived.Test.YteoikmbdpofhmaaVFnUsesXx0
import Derived.Test.YteoikmbdpofhmaaVFnUsesXx2
import Derived.Test.YteoikmbdpofhmaaVFnUsesXx8
namespace Go.Proofs.Yteoikmbdpofhmaa.XFnUses
open Go.RowKit Go.Proofs.YteoikmbdpofhmaaW.PrintWords Go.Proofs.YteoikmbdpofhmaaW.PrintLast Go.Proofs.YteoikmbdpofhmaaW.PrintMore
attribute [local go_sem] max2_int min2_int max_two min_two max_three min_three max_four min_four
set_option linter.unusedVariables false
set_option linter.unusedSimpArgs false
theorem spec_DrawRanked.z0 {p : Prop} (h : p := by rw [hg]; exact Nat.ne_of_lt (blk_lt (g := gb412) (o := .cells #[.slice A0_0 l0_0.length c0_0, .slice A0_1 l0_1.length c0_1, .int .i64 a0_2, .slice (some ad413) l0_3.length c0_3] 46 (0, 0)) (g2 BK412.out))) : p := h
theorem spec_DrawRanked.z1 {p : Prop} (h : p := by rw [hg]; exact Nat.ne_of_gt (blk_lt (g := gb412) (o := .cells #[.slice A0_0 l0_0.length c0_0, .slice A0_1 l0_1.length c0_1, .int .i64 a0_2, .slice (some ad413) l0_3.length c0_3] 46 (0, 0)) (g2 BK412.out))) : p := h
theorem spec_DrawRanked.z2 {p : Prop} (h : p := by rw [hg]; exact Nat.ne_of_lt (blk_lt (g := gb414) (o := .cells #[.slice (some ad415) ((rd_T68 l0_3 x13_1).f0).length c413_0] 68 (0, 0)) (g2 BK414.out))) : p := h
theorem spec_DrawRanked.z3 {p : Prop} (h : p := by rw [hg]; exact Nat.ne_of_gt (blk_lt (g := gb414) (o := .cells #[.slice (some ad415) ((rd_T68 l0_3 x13_1).f0).length c413_0] 68 (0, 0)) (g2 BK414.out))) : p := h
theorem spec_DrawRanked.z4 {p : Prop} (h : p := by (with_reducible repeat (first | refine blk_drewN ?_ _ | refine blk_drew ?_ | refine blk_alloc ?_ _)); refine blk_put (cs := #[.int .i64 ((rd_T93 ((rd_T68 l0_3 x13_1).f0) x20_2).f0), .int .i64 ((rd_T93 ((rd_T68 l0_3 x13_1).f0) x20_2).f1), .int .i64 ((rd_T93 ((rd_T68 l0_3 x13_1).f0) x20_2).f2), .int .i64 ((rd_T93 ((rd_T68 l0_3 x13_1).f0) x20_2).f3), .int .i64 0]) ?_ 4 _ rfl; (with_reducible repeat (first | refine blk_drewN ?_ _ | refine blk_drew ?_ | refine blk_alloc ?_ _)); refine blk_put (cs := #[.int .i64 ((rd_T93 ((rd_T68 l0_3 x13_1).f0) x20_2).f0), .int .i64 ((rd_T93 ((rd_T68 l0_3 x13_1).f0) x20_2).f1), .int .i64 ((rd_T93 ((rd_T68 l0_3 x13_1).f0) x20_2).f2), .int .i64 0, .int .i64 0]) ?_ 3 _ rfl; (with_reducible repeat (first | refine blk_drewN ?_ _ | refine blk_drew ?_ | refine blk_alloc ?_ _)); refine blk_put (cs := #[.int .i64 ((rd_T93 ((rd_T68 l0_3 x13_1).f0) x20_2).f0), .int .i64 ((rd_T93 ((rd_T68 l0_3 x13_1).f0) x20_2).f1), .int .i64 0, .int .i64 0, .int .i64 0]) ?_ 2 _ rfl; (with_reducible repeat (first | refine blk_drewN ?_ _ | refine blk_drew ?_ | refine blk_alloc ?_ _)); refine blk_put (cs := #[.int .i64 ((rd_T93 ((rd_T68 l0_3 x13_1).f0) x20_2).f0), .int .i64 0, .int .i64 0, .int .i64 0, .int .i64 0]) ?_ 1 _ rfl; (with_reducible repeat (first | refine blk_drewN ?_ _ | refine blk_drew ?_ | refine blk_alloc ?_ _)); refine blk_put (cs := #[.int .i64 0, .int .i64 0, .int .i64 0, .int .i64 0, .int .i64 0]) ?_ 0 _ rfl; (with_reducible repeat (first | refine blk_drewN ?_ _ | refine blk_drew ?_ | refine blk_alloc ?_ _)); exact BK416.out) : p := h
theorem spec_DrawRanked.K2_ {p0 p1 : Prop} (h0 : p0) (h1 : p1) : Aside0 p0 ∧ Aside0 p1 := ⟨⟨h0⟩, ⟨h1⟩⟩
theorem spec_DrawRanked.K4_ {p0 p1 p2 p3 : Prop} (h0 : p0) (h1 : p1) (h2 : p2) (h3 : p3) : Aside0 p0 ∧ Aside0 p1 ∧ Aside0 p2 ∧ Aside0 p3 := ⟨⟨h0⟩, ⟨h1⟩, ⟨h2⟩, ⟨h3⟩⟩
theorem spec_DrawRanked.K5_ {p0 p1 p2 p3 p4 : Prop} (h0 : p0) (h1 : p1) (h2 : p2) (h3 : p3) (h4 : p4) : Aside0 p0 ∧ Aside0 p1 ∧ Aside0 p2 ∧ Aside0 p3 ∧ Aside0 p4 := ⟨⟨h0⟩, ⟨h1⟩, ⟨h2⟩, ⟨h3⟩, ⟨h4⟩⟩
theorem spec_DrawRanked.K6_ {p0 p1 p2 p3 p4 p5 : Prop} (h0 : p0) (h1 : p1) (h2 : p2) (h3 : p3) (h4 : p4) (h5 : p5) : Aside0 p0 ∧ Aside0 p1 ∧ Aside0 p2 ∧ Aside0 p3 ∧ Aside0 p4 ∧ Aside0 p5 := ⟨⟨h0⟩, ⟨h1⟩, ⟨h2⟩, ⟨h3⟩, ⟨h4⟩, ⟨h5⟩⟩
theorem spec_DrawRanked.K7_ {p0 p1 p2 p3 p4 p5 p6 : Prop} (h0 : p0) (h1 : p1) (h2 : p2) (h3 : p3) (h4 : p4) (h5 : p5) (h6 : p6) : Aside0 p0 ∧ Aside0 p1 ∧ Aside0 p2 ∧ Aside0 p3 ∧ Aside0 p4 ∧ Aside0 p5 ∧ Aside0 p6 := ⟨⟨h0⟩, ⟨h1⟩, ⟨h2⟩, ⟨h3⟩, ⟨h4⟩, ⟨h5⟩, ⟨h6⟩⟩
theorem spec_DrawRanked.K10_ {p0 p1 p2 p3 p4 p5 p6 p7 p8 p9 : Prop} (h0 : p0) (h1 : p1) (h2 : p2) (h3 : p3) (h4 : p4) (h5 : p5) (h6 : p6) (h7 : p7) (h8 : p8) (h9 : p9) : Aside0 p0 ∧ Aside0 p1 ∧ Aside0 p2 ∧ Aside0 p3 ∧ Aside0 p4 ∧ Aside0 p5 ∧ Aside0 p6 ∧ Aside0 p7 ∧ Aside0 p8 ∧ Aside0 p9 := ⟨⟨h0⟩, ⟨h1⟩, ⟨h2⟩, ⟨h3⟩, ⟨h4⟩, ⟨h5⟩, ⟨h6⟩, ⟨h7⟩, ⟨h8⟩, ⟨h9⟩⟩
def spec_DrawRanked.f (k : Nat) (l0 : List Int) : Option (List ByteArray × List Int × Int × (List (S68))) := (spec_l1New.f k l0).bind fun bt395 => ((spec_l24Bent.f k bt395.1 bt395.2.1 bt395.2.2).bind fun bt399 => (some (bt399.1, bt399.2.1, bt399.2.2.1, bt399.2.2.2.1)))
set_option maxHeartbeats 8000000 in
set_option maxRecDepth 100000 in
theorem spec_DrawRanked.calls (k : Nat) (A0 : Option Addr) (c0 : Nat) (l0 : List Int) (r1 : List ByteArray) (r2 : List Int) (r3 : Int) (r4 : List (S68)) (w : World) (hr0 : Kd.C (Kd.int .u8) w A0 l0.length l0) (hc0 : l0.length ≤ c0) (h : spec_DrawRanked.f k l0 = some (r1, r2, r3, r4)) :
    Calls Try.prog 33 #[.slice A0 l0.length c0] w fun e w' => ∃ v0_ v1_ v3_ : Value, e = .returned (.agg #[v0_, v1_, .int .i64 r3, v3_]) ∧ Kd.R Kd.string 9 w' w.heap.size (fun _ => True) v0_ r1 ∧ Kd.R (Kd.int .i64) 3 w' w.heap.size (fun _ => True) v1_ r2 ∧ Kd.S k68 68 w' w.heap.size (fun _ => True) v3_ r4 ∧ Below w.heap.size w w' := by
 have hu46 := Try.underlying46
 have HR0 := Aside0.mk hr0
 have HC0 := Aside0.mk hc0
 clear hr0 hc0
 have HB := Aside0.mk (Below.refl w.heap.size w)
 have H : ((spec_l1New.f k l0).bind fun bt395 => ((spec_l24Bent.f k bt395.1 bt395.2.1 bt395.2.2).bind fun bt399 => (some (bt399.1, bt399.2.1, bt399.2.2.1, bt399.2.2.2.1)))) = some (r1, r2, r3, r4) := h
 clear h
 replace H := Option.bind_eq_some_iff.mp H
 obtain ⟨⟨t395, t396, t397⟩, A20, H⟩ := H
 replace H : ((spec_l24Bent.f k t395 t396 t397).bind fun bt399 => (some (bt399.1, bt399.2.1, bt399.2.2.1, bt399.2.2.2.1))) = some (r1, r2, r3, r4) := H
 have A2 := Aside0.mk A20
 clear A20
 replace H := Option.bind_eq_some_iff.mp H
 obtain ⟨⟨t399, t402, t405, t406, t409, t410⟩, A30, H⟩ := H
 replace H : (some (t399, t402, t405, t406)) = some (r1, r2, r3, r4) := H
 have A3 := Aside0.mk A30
 clear A30
 simp only [Option.some.injEq, Prod.mk.injEq] at H
 obtain ⟨rfl, rfl, rfl, rfl⟩ := H
 go_enter Try.func33, Try.ntmps33
 go_wp2_with (first | ((with_reducible refine gate_dst (N := 2) rfl ?_); refine box_event ?hg (N := 2) ?hd (cs := #[.slice none 0 0, .slice none 0 0, .int .i64 0, .slice none 0 0]) (t := 46) ?hr ?_; (case hd => rfl); (case hg => rfl); (case hr => exact g10); intro gb394 hg w4 hbox hb; have n_ := spec_DrawRanked.K4_ (below_step (g4 HB.out) hb) hbox ((g11 HB.out : w.heap.size ≤ gb394)) ((g11 HB.out : w.heap.size ≤ gb394)); clear HB; obtain ⟨HB, BK394, GW394, GE394⟩ := n_; clear hb hbox hg) | ((with_reducible refine gate_callee (f := 46) rfl ?_); refine goesL_ (some 4) rfl rfl Try.func46 (by kernel_rfl) rfl #[.slice A0 l0.length c0] rfl (g9) ?_; (with_reducible refine (spec_l1New.calls k _ _ l0 t395 t396 t397 w _ ?side1 ?side2 ?side3 A2.out).mono ?_); (case side1 => exact g12 HB.out GE394.out); (case side2 => exact HR0.out); (case side3 => exact HC0.out); rintro e w5 ⟨g398, rfl, hi, hb, hb2⟩; refine ⟨_, rfl, ?_⟩; have n_ := spec_DrawRanked.K5_ (blk_below (g := gb394) (o := .cells #[.slice none 0 0, .slice none 0 0, .int .i64 0, .slice none 0 0] 46 (0, 0)) (g2 BK394.out) hb2) hb hi (IsS105.ne_blk hi (blk_below (g := gb394) (o := .cells #[.slice none 0 0, .slice none 0 0, .int .i64 0, .slice none 0 0] 46 (0, 0)) (g2 BK394.out) hb2) (by decide)) (Ne.symm (IsS105.ne_blk hi (blk_below (g := gb394) (o := .cells #[.slice none 0 0, .slice none 0 0, .int .i64 0, .slice none 0 0] 46 (0, 0)) (g2 BK394.out) hb2) (by decide))); clear BK394 HB; obtain ⟨BK394, HB, HI398, NB398_394, NB394_398⟩ := n_; (try clear hb); (try clear hb2); (try clear hk); (try clear hi)) | ((with_reducible refine gate_callee (f := 83) rfl ?_); refine goesL_ (some 5) rfl rfl Try.func83 (by kernel_rfl) rfl #[.pointer (some ⟨g398, 0, none⟩)] rfl (g9) ?_; (with_reducible refine (spec_l24Bent.calls k g398 t395 t396 t397 t399 t402 t405 t406 t409 t410 w _ ?side1 ?side2 A3.out).mono ?_); (case side1 => exact g39 HI398.out NB398_394.out); (case side2 => exact g40 HB.out HI398.out GE394.out); rintro e w6 ⟨v400, v403, v407, rfl, ho0, ho1, ho2, hi, hb, hk⟩; refine ⟨_, rfl, ?_⟩; have n_ := spec_DrawRanked.K6_ (KeepBut.blk hk (g' := gb394) (o := .cells #[.slice none 0 0, .slice none 0 0, .int .i64 0, .slice none 0 0] 46 (0, 0)) (g2 BK394.out) NB394_398.out (by simp)) (Kd.R_lower ho0 (below_size (g40 HB.out HI398.out GE394.out))) (Kd.R_lower ho1 (below_size (g40 HB.out HI398.out GE394.out))) (Kd.S_lower ho2 (below_size (g40 HB.out HI398.out GE394.out))) hb hi; clear BK394 HB HI398; obtain ⟨BK394, HO401, HO404, HO408, HB, HI398⟩ := n_; (try clear hb); (try clear hb2); (try clear hk); (try clear hi); (try clear ho0); (try clear ho1); (try clear ho2); obtain ⟨Ao7, co7, eo7⟩ := Kd.R_slice HO401.out; subst eo7; have hnb8 := NB394_398.out; have hnc8 := NB398_394.out; have hcz9_0 : w6.cell? ⟨gb394, 0, none⟩ = some (.slice none 0 0) := (blk_cell BK394.out 0).trans rfl; have hcz9_1 : w6.cell? ⟨gb394, 1, none⟩ = some (.slice none 0 0) := (blk_cell BK394.out 1).trans rfl; have hcz9_2 : w6.cell? ⟨gb394, 2, none⟩ = some (.int .i64 0) := (blk_cell BK394.out 2).trans rfl; have hcz9_3 : w6.cell? ⟨gb394, 3, none⟩ = some (.slice none 0 0) := (blk_cell BK394.out 3).trans rfl; have hfz9_0 := blk_frozen BK394.out 0; have hfz9_1 := blk_frozen BK394.out 1; have hfz9_2 := blk_frozen BK394.out 2; have hfz9_3 := blk_frozen BK394.out 3; obtain ⟨Ao10, co10, eo10⟩ := Kd.R_slice HO404.out; subst eo10; obtain ⟨Ao11, co11, eo11⟩ := Kd.S_slice HO408.out; subst eo11))
 refine bodyPost_ret (results_cell_row rfl _ _ gb394 46 #[.slice Ao7 t399.length co7, .slice Ao10 t402.length co10, .int .i64 t405, .slice Ao11 t406.length co11] (0, 0) _ rfl (by (with_reducible repeat (first | refine blk_drewN ?_ _ | refine blk_drew ?_ | refine blk_alloc ?_ _)); refine blk_put (cs := #[.slice Ao7 t399.length co7, .slice Ao10 t402.length co10, .int .i64 t405, .slice none 0 0]) ?_ 3 _ rfl; (with_reducible repeat (first | refine blk_drewN ?_ _ | refine blk_drew ?_ | refine blk_alloc ?_ _)); refine blk_put (cs := #[.slice Ao7 t399.length co7, .slice Ao10 t402.length co10, .int .i64 0, .slice none 0 0]) ?_ 2 _ rfl; (with_reducible repeat (first | refine blk_drewN ?_ _ | refine blk_drew ?_ | refine blk_alloc ?_ _)); refine blk_put (cs := #[.slice Ao7 t399.length co7, .slice none 0 0, .int .i64 0, .slice none 0 0]) ?_ 1 _ rfl; (with_reducible repeat (first | refine blk_drewN ?_ _ | refine blk_drew ?_ | refine blk_alloc ?_ _)); refine blk_put (cs := #[.slice none 0 0, .slice none 0 0, .int .i64 0, .slice none 0 0]) ?_ 0 _ rfl; (with_reducible repeat (first | refine blk_drewN ?_ _ | refine blk_drew ?_ | refine blk_alloc ?_ _)); exact BK394.out) Try.underlying46 rfl (by kernel_rfl)) rfl ?_
 exact ⟨_, _, _, g5, by (with_reducible repeat (first | apply Kd.R_alloc | apply Kd.R_drewN | apply Kd.R_drew)); exact Kd.R_mono (Kd.R_far (p := ⟨gb394, 3, none⟩) (Kd.R_far (p := ⟨gb394, 2, none⟩) (Kd.R_far (p := ⟨gb394, 1, none⟩) (Kd.R_far (p := ⟨gb394, 0, none⟩) (Kd.R_types HO401.out BK394.out (by decide)) (fun _ hk => hk.2) (.slice Ao7 t399.length co7)) (fun _ hk => hk.2) (.slice Ao10 t402.length co10)) (fun _ hk => hk.2) (.int .i64 t405)) (fun _ hk => hk.2) (.slice Ao11 t406.length co11)) (fun _ hk => trivial), by (with_reducible repeat (first | apply Kd.R_alloc | apply Kd.R_drewN | apply Kd.R_drew)); exact Kd.R_mono (Kd.R_far (p := ⟨gb394, 3, none⟩) (Kd.R_far (p := ⟨gb394, 2, none⟩) (Kd.R_far (p := ⟨gb394, 1, none⟩) (Kd.R_far (p := ⟨gb394, 0, none⟩) (Kd.R_types HO404.out BK394.out (by decide)) (fun _ hk => hk.2) (.slice Ao7 t399.length co7)) (fun _ hk => hk.2) (.slice Ao10 t402.length co10)) (fun _ hk => hk.2) (.int .i64 t405)) (fun _ hk => hk.2) (.slice Ao11 t406.length co11)) (fun _ hk => trivial), by (with_reducible repeat (first | apply Kd.S_alloc | apply Kd.S_drewN | apply Kd.S_drew)); exact Kd.S_mono (Kd.S_far (p := ⟨gb394, 3, none⟩) (Kd.S_far (p := ⟨gb394, 2, none⟩) (Kd.S_far (p := ⟨gb394, 1, none⟩) (Kd.S_far (p := ⟨gb394, 0, none⟩) (Kd.S_types HO408.out BK394.out (by decide)) (fun _ hk => hk.2) (.slice Ao7 t399.length co7)) (fun _ hk => hk.2) (.slice Ao10 t402.length co10)) (fun _ hk => hk.2) (.int .i64 t405)) (fun _ hk => hk.2) (.slice Ao11 t406.length co11)) (fun _ hk => trivial), g40 HB.out HI398.out GE394.out⟩
def impl_isLeaf.f (a0_0 : Int) (a0_1 : Int) (a0_2 : Int) (a0_3 : Int) (a0_4 : Int) : Option (Bool) := some (a0_0 == (-1))
set_option maxHeartbeats 8000000 in
set_option maxRecDepth 100000 in
theorem impl_isLeaf.calls (a0_0 : Int) (a0_1 : Int) (a0_2 : Int) (a0_3 : Int) (a0_4 : Int) (r : Bool) (w : World) (h : impl_isLeaf.f a0_0 a0_1 a0_2 a0_3 a0_4 = some r) :
    Calls Try.prog 84 #[.agg #[.int .i64 a0_0, .int .i64 a0_1, .int .i64 a0_2, .int .i64 a0_3, .int .i64 a0_4]] w fun e w' => e = .returned (.bool r) ∧ Below w.heap.size w w' := by
 have hu93 := Try.underlying93
 have HB := Aside0.mk (Below.refl w.heap.size w)
 have H : (some (a0_0 == (-1))) = some r := h
 clear h
 obtain rfl := Option.some.inj H
 go_enter Try.func84, Try.ntmps84
 go_wp2_with (first | ((with_reducible refine gate_dst (N := 1) rfl ?_); refine box_event ?hg (N := 1) ?hd (cs := #[.int .i64 a0_0, .int .i64 a0_1, .int .i64 a0_2, .int .i64 a0_3, .int .i64 a0_4]) (t := 93) ?hr ?_; (case hd => rfl); (case hg => rfl); (case hr => exact g10); intro gb411 hg w2 hbox hb; have n_ := spec_DrawRanked.K4_ (below_step (g4 HB.out) hb) hbox ((g11 HB.out : w.heap.size ≤ gb411)) ((g11 HB.out : w.heap.size ≤ gb411)); clear HB; obtain ⟨HB, BK411, GW411, GE411⟩ := n_; clear hb hbox hg; have hcz3_0 : w2.cell? ⟨gb411, 0, none⟩ = some (.int .i64 a0_0) := (blk_cell BK411.out 0).trans rfl; have hcz3_1 : w2.cell? ⟨gb411, 1, none⟩ = some (.int .i64 a0_1) := (blk_cell BK411.out 1).trans rfl; have hcz3_2 : w2.cell? ⟨gb411, 2, none⟩ = some (.int .i64 a0_2) := (blk_cell BK411.out 2).trans rfl; have hcz3_3 : w2.cell? ⟨gb411, 3, none⟩ = some (.int .i64 a0_3) := (blk_cell BK411.out 3).trans rfl; have hcz3_4 : w2.cell? ⟨gb411, 4, none⟩ = some (.int .i64 a0_4) := (blk_cell BK411.out 4).trans rfl; have hfz3_0 := blk_frozen BK411.out 0; have hfz3_1 := blk_frozen BK411.out 1; have hfz3_2 := blk_frozen BK411.out 2; have hfz3_3 := blk_frozen BK411.out 3; have hfz3_4 := blk_frozen BK411.out 4))
 go_ret
 exact ⟨g5, g12 HB.out GE411.out⟩
mutual
def impl_UsesOf.l0 : Nat → Int → Int → List (S68) → Int → Int → Option (Int)
  | 0, _, _, _, _, _ => none
  | k + 1, x1, x5, x11, x12, x13 => if x13 < x12 then (if 0 ≤ x13 then (if x13 < (x11.length : Int) then (impl_UsesOf.l1 k x1 x5 x11 x12 x13 ((rd_T68 x11 x13).f0) (((rd_T68 x11 x13).f0).length : Int) 0) else (none)) else (none)) else (some x5)
def impl_UsesOf.l1 : Nat → Int → Int → List (S68) → Int → Int → List (S93) → Int → Int → Option (Int)
  | 0, _, _, _, _, _, _, _, _ => none
  | k + 1, x1, x5, x11, x12, x13, x18, x19, x20 => if x20 < x19 then (if 0 ≤ x20 then (if x20 < (x18.length : Int) then ((impl_isLeaf.f ((rd_T93 x18 x20).f0) ((rd_T93 x18 x20).f1) ((rd_T93 x18 x20).f2) ((rd_T93 x18 x20).f3) ((rd_T93 x18 x20).f4)).bind fun t417 => (if t417 = true then (impl_UsesOf.l1 k x1 x5 x11 x12 x13 x18 x19 (wrap64 (x20 + 1))) else (if ((rd_T93 x18 x20).f0) = x1 then (impl_UsesOf.l1 k x1 (wrap64 (x5 + 1)) x11 x12 x13 x18 x19 (wrap64 (x20 + 1))) else (impl_UsesOf.l1 k x1 x5 x11 x12 x13 x18 x19 (wrap64 (x20 + 1)))))) else (none)) else (none)) else (impl_UsesOf.l0 k x1 x5 x11 x12 (wrap64 (x13 + 1)))
end
def impl_UsesOf.f (k : Nat) (l0_0 : List ByteArray) (l0_1 : List Int) (a0_2 : Int) (l0_3 : List (S68)) (a1 : Int) : Option (Int) := impl_UsesOf.l0 k a1 0 l0_3 (l0_3.length : Int) 0
set_option maxHeartbeats 8000000 in
set_option maxRecDepth 100000 in
theorem impl_UsesOf.calls (k : Nat) (A0_0 : Option Addr) (c0_0 : Nat) (l0_0 : List ByteArray) (A0_1 : Option Addr) (c0_1 : Nat) (l0_1 : List Int) (a0_2 : Int) (A0_3 : Option Addr) (c0_3 : Nat) (l0_3 : List (S68)) (a1 : Int) (r : Int) (w : World) (hr0_0 : Kd.C Kd.string w A0_0 l0_0.length l0_0) (hc0_0 : l0_0.length ≤ c0_0) (hr0_1 : Kd.C (Kd.int .i64) w A0_1 l0_1.length l0_1) (hc0_1 : l0_1.length ≤ c0_1) (hr0_3 : Kd.C k68 w A0_3 l0_3.length l0_3) (hc0_3 : l0_3.length ≤ c0_3) (h : impl_UsesOf.f k l0_0 l0_1 a0_2 l0_3 a1 = some r) :
    Calls Try.prog 36 #[.agg #[.slice A0_0 l0_0.length c0_0, .slice A0_1 l0_1.length c0_1, .int .i64 a0_2, .slice A0_3 l0_3.length c0_3], .int .i64 a1] w fun e w' => e = .returned (.int .i64 r) ∧ Below w.heap.size w w' := by
 have hu46 := Try.underlying46
 have hu68 := Try.underlying68
 have hu93 := Try.underlying93
 have HR0_0 := Aside0.mk hr0_0
 have HC0_0 := Aside0.mk hc0_0
 clear hr0_0 hc0_0
 have HR0_1 := Aside0.mk hr0_1
 have HC0_1 := Aside0.mk hc0_1
 clear hr0_1 hc0_1
 have HR0_3 := Aside0.mk hr0_3
 have HC0_3 := Aside0.mk hc0_3
 clear hr0_3 hc0_3
 have HB := Aside0.mk (Below.refl w.heap.size w)
 have H : (impl_UsesOf.l0 k a1 0 l0_3 (l0_3.length : Int) 0) = some r := h
 clear h
 have H' := Aside0.mk H
 clear H
 go_enter Try.func36, Try.ntmps36
 go_wp2_with (first | ((with_reducible refine gate_dst (N := 2) rfl ?_); refine box_event ?hg (N := 2) ?hd (cs := #[.slice A0_0 l0_0.length c0_0, .slice A0_1 l0_1.length c0_1, .int .i64 a0_2, .slice A0_3 l0_3.length c0_3]) (t := 46) ?hr ?_; (case hd => rfl); (case hg => rfl); (case hr => exact g10); intro gb412 hg w3 hbox hb; have n_ := spec_DrawRanked.K4_ (below_step (g4 HB.out) hb) hbox ((g11 HB.out : w.heap.size ≤ gb412)) ((g11 HB.out : w.heap.size ≤ gb412)); clear HB; obtain ⟨HB, BK412, GW412, GE412⟩ := n_; clear hb hbox hg; have hcz4_0 : w3.cell? ⟨gb412, 0, none⟩ = some (.slice A0_0 l0_0.length c0_0) := (blk_cell BK412.out 0).trans rfl; have hcz4_1 : w3.cell? ⟨gb412, 1, none⟩ = some (.slice A0_1 l0_1.length c0_1) := (blk_cell BK412.out 1).trans rfl; have hcz4_2 : w3.cell? ⟨gb412, 2, none⟩ = some (.int .i64 a0_2) := (blk_cell BK412.out 2).trans rfl; have hcz4_3 : w3.cell? ⟨gb412, 3, none⟩ = some (.slice A0_3 l0_3.length c0_3) := (blk_cell BK412.out 3).trans rfl; have hfz4_0 := blk_frozen BK412.out 0; have hfz4_1 := blk_frozen BK412.out 1; have hfz4_2 := blk_frozen BK412.out 2; have hfz4_3 := blk_frozen BK412.out 3))
 go_loopg [5, 13] k (fun kq v5 v13 w' => ∃ (x5_1 : Int) (x13_1 : Int), v5 = .int .i64 x5_1 ∧ v13 = .int .i64 x13_1 ∧ Aside0 (impl_UsesOf.l0 kq a1 x5_1 l0_3 (l0_3.length : Int) x13_1 = some r) ∧ Aside0 (kq ≤ k) ∧ Aside0 (w'.heap[gb412]? = some (.cells #[(.slice A0_0 l0_0.length c0_0), (.slice A0_1 l0_1.length c0_1), .int .i64 a0_2, (.slice A0_3 l0_3.length c0_3)] 46 (0, 0))) ∧ Aside0 (Below w.heap.size w w'))
 case atStart => exact ⟨(0), (0), (g0), (g0), H', ⟨Nat.le_refl _⟩, ⟨g2 BK412.out⟩, ⟨g12 HB.out GE412.out⟩⟩
 case round =>
  clear H'
  try clear p2
  try clear c3
  try clear hcz4_0
  try clear hcz4_1
  try clear hcz4_2
  try clear hcz4_3
  try clear hfz4_0
  try clear hfz4_1
  try clear hfz4_2
  try clear hfz4_3
  obtain ⟨x5_1, x13_1, rfl, rfl, HA, HK1, BK412, HB⟩ := hrel
  cases gk with
  | zero => exact absurd HA.out (by simp [impl_UsesOf.l0])
  | succ k1 =>
   have H := HA.out
   clear HA
   simp only [impl_UsesOf.l0] at H
   by_cases c5 : x13_1 < (l0_3.length : Int)
   case neg =>
    rw [if_neg c5] at H
    have c5b0 : decide (x13_1 < (l0_3.length : Int)) = false := decide_eq_false c5
    clear c5
    obtain rfl := Option.some.inj H
    go_wp2
    go_ret
    exact ⟨g5, g12 HB.out GE412.out⟩
   rw [if_pos c5] at H
   have c5b0 : decide (x13_1 < (l0_3.length : Int)) = true := decide_eq_true c5
   clear c5
   by_cases c6 : 0 ≤ x13_1
   case neg =>
    rw [if_neg c6] at H
    exact absurd H (by simp)
   rw [if_pos c6] at H
   have c6b0 : decide (0 ≤ x13_1) = true := decide_eq_true c6
   clear c6
   by_cases c7 : x13_1 < (l0_3.length : Int)
   case neg =>
    rw [if_neg c7] at H
    exact absurd H (by simp)
   rw [if_pos c7] at H
   have c7b0 : decide (x13_1 < (l0_3.length : Int)) = true := decide_eq_true c7
   clear c7
   have H' := Aside0.mk H
   clear H
   have p413 : 0 ≤ (x13_1 : Int) := of_decide_eq_true (g6)
   have q413 : x13_1 < (l0_3.length : Int) := of_decide_eq_true (g6)
   obtain ⟨ad413, A413_0, c413_0, e413, hx413_0, hl413_0, hi413_0⟩ := at_T68 HR0_3.out x13_1 p413 q413
   cases e413
   replace hx413_0 := (HB.out.cell (World.block_lt_of_cell? w _ hx413_0)).trans hx413_0
   have HR413_0 := Aside0.mk hi413_0
   have HC413_0 := Aside0.mk hl413_0
   clear hi413_0 hl413_0
   replace p413 := eq_true p413
   replace q413 := eq_true q413
   go_wp2_with (first | ((with_reducible refine gate_dst (N := 7) rfl ?_); refine box_event ?hg (N := 7) ?hd (cs := #[.slice none 0 0]) (t := 68) ?hr ?_; (case hd => rfl); (case hg => rfl); (case hr => exact g10); intro gb414 hg w8 hbox hb; have n_ := spec_DrawRanked.K7_ (blk_below (g := gb412) (o := .cells #[.slice A0_0 l0_0.length c0_0, .slice A0_1 l0_1.length c0_1, .int .i64 a0_2, .slice (some ad413) l0_3.length c0_3] 46 (0, 0)) (g2 BK412.out) hb) (below_step (g12 HB.out GE412.out) hb) hbox ((g16 HB.out GE412.out : w.heap.size ≤ gb414)) ((g16 HB.out GE412.out : w.heap.size ≤ gb414)) ((spec_DrawRanked.z0 : gb412 ≠ gb414)) ((spec_DrawRanked.z1 : gb414 ≠ gb412)); clear BK412 HB; obtain ⟨BK412, HB, BK414, GW414, GE414, NB412_414, NB414_412⟩ := n_; clear hb hbox hg; have hnb9 := NB414_412.out; have hnc9 := NB412_414.out; have hcz10_0 : w8.cell? ⟨gb414, 0, none⟩ = some (.slice none 0 0) := (blk_cell BK414.out 0).trans rfl; have hfz10_0 := blk_frozen BK414.out 0))
   go_loopg [5, 20] k1 (fun kq v5 v20 w' => ∃ (x5_2 : Int) (x20_2 : Int), v5 = .int .i64 x5_2 ∧ v20 = .int .i64 x20_2 ∧ Aside0 (impl_UsesOf.l1 kq a1 x5_2 l0_3 (l0_3.length : Int) x13_1 ((rd_T68 l0_3 x13_1).f0) (((rd_T68 l0_3 x13_1).f0).length : Int) x20_2 = some r) ∧ Aside0 (kq ≤ k1) ∧ Aside0 (w'.heap[gb412]? = some (.cells #[(.slice A0_0 l0_0.length c0_0), (.slice A0_1 l0_1.length c0_1), .int .i64 a0_2, (.slice (some ad413) l0_3.length c0_3)] 46 (0, 0))) ∧ Aside0 (w'.heap[gb414]? = some (.cells #[(.slice A413_0 ((rd_T68 l0_3 x13_1).f0).length c413_0)] 68 (0, 0))) ∧ Aside0 (Below w.heap.size w w'))
   case atStart => exact ⟨(x5_1), (0), (g0), (g0), H', ⟨Nat.le_refl _⟩, ⟨g22 NB412_414.out BK412.out⟩, ⟨by (with_reducible repeat (first | refine blk_drewN ?_ _ | refine blk_drew ?_ | refine blk_alloc ?_ _)); refine blk_put (cs := #[.slice none 0 0]) ?_ 0 _ rfl; (with_reducible repeat (first | refine blk_drewN ?_ _ | refine blk_drew ?_ | refine blk_alloc ?_ _)); exact BK414.out⟩, ⟨g18 HB.out GE412.out GE414.out⟩⟩
   case round =>
    clear H'
    try clear p2
    try clear c3
    try clear c4
    try clear p4
    try clear q4
    try clear hx4
    try clear c5
    try clear c5b0
    try clear c6
    try clear c6b0
    try clear c7
    try clear c7b0
    try clear c9
    try clear hcz10_0
    try clear hcz4_0
    try clear hcz4_1
    try clear hcz4_2
    try clear hcz4_3
    try clear hfz10_0
    try clear hfz4_0
    try clear hfz4_1
    try clear hfz4_2
    try clear hfz4_3
    try clear hx413_0
    try clear p2
    try clear p413
    try clear q413
    obtain ⟨x5_2, x20_2, rfl, rfl, HA, HK2, BK412, BK414, HB⟩ := hrel
    cases gk with
    | zero => exact absurd HA.out (by simp [impl_UsesOf.l1])
    | succ k2 =>
     have H := HA.out
     clear HA
     simp only [impl_UsesOf.l1] at H
     by_cases c11 : x20_2 < (((rd_T68 l0_3 x13_1).f0).length : Int)
     case neg =>
      rw [if_neg c11] at H
      have c11b0 : decide (x20_2 < (((rd_T68 l0_3 x13_1).f0).length : Int)) = false := decide_eq_false c11
      clear c11
      have H' := Aside0.mk H
      clear H
      go_wp2
      go_roundg k2
      case measure => have := HK1.out; have := HK2.out; omega
      case rel => exact ⟨(x5_2), (wrap64 (x13_1 + 1)), (g0), (g0), H', ⟨by have := HK1.out; have := HK2.out; omega⟩, ⟨g2 BK412.out⟩, ⟨g18 HB.out GE412.out GE414.out⟩⟩
     rw [if_pos c11] at H
     have c11b0 : decide (x20_2 < (((rd_T68 l0_3 x13_1).f0).length : Int)) = true := decide_eq_true c11
     clear c11
     by_cases c12 : 0 ≤ x20_2
     case neg =>
      rw [if_neg c12] at H
      exact absurd H (by simp)
     rw [if_pos c12] at H
     have c12b0 : decide (0 ≤ x20_2) = true := decide_eq_true c12
     clear c12
     by_cases c13 : x20_2 < (((rd_T68 l0_3 x13_1).f0).length : Int)
     case neg =>
      rw [if_neg c13] at H
      exact absurd H (by simp)
     rw [if_pos c13] at H
     have c13b0 : decide (x20_2 < (((rd_T68 l0_3 x13_1).f0).length : Int)) = true := decide_eq_true c13
     clear c13
     replace H := Option.bind_eq_some_iff.mp H
     obtain ⟨t417, A140, H⟩ := H
     replace H : (if t417 = true then (impl_UsesOf.l1 k2 a1 x5_2 l0_3 (l0_3.length : Int) x13_1 ((rd_T68 l0_3 x13_1).f0) (((rd_T68 l0_3 x13_1).f0).length : Int) (wrap64 (x20_2 + 1))) else (if ((rd_T93 ((rd_T68 l0_3 x13_1).f0) x20_2).f0) = a1 then (impl_UsesOf.l1 k2 a1 (wrap64 (x5_2 + 1)) l0_3 (l0_3.length : Int) x13_1 ((rd_T68 l0_3 x13_1).f0) (((rd_T68 l0_3 x13_1).f0).length : Int) (wrap64 (x20_2 + 1))) else (impl_UsesOf.l1 k2 a1 x5_2 l0_3 (l0_3.length : Int) x13_1 ((rd_T68 l0_3 x13_1).f0) (((rd_T68 l0_3 x13_1).f0).length : Int) (wrap64 (x20_2 + 1))))) = some r := H
     have A14 := Aside0.mk A140
     clear A140
     by_cases c15 : t417 = true
     case pos =>
      subst c15
      have H1 : (impl_UsesOf.l1 k2 a1 x5_2 l0_3 (l0_3.length : Int) x13_1 ((rd_T68 l0_3 x13_1).f0) (((rd_T68 l0_3 x13_1).f0).length : Int) (wrap64 (x20_2 + 1))) = some r := by rw [if_pos rfl] at H; exact H
      clear H
      have H := H1
      clear H1
      have H' := Aside0.mk H
      clear H
      have p415 : 0 ≤ (x20_2 : Int) := of_decide_eq_true (g6)
      have q415 : x20_2 < (((rd_T68 l0_3 x13_1).f0).length : Int) := of_decide_eq_true (g6)
      obtain ⟨ad415, e415, hx415_0, hx415_1, hx415_2, hx415_3, hx415_4⟩ := at_T93 HR413_0.out x20_2 p415 q415
      cases e415
      replace hx415_0 := (HB.out.cell (World.block_lt_of_cell? w _ hx415_0)).trans hx415_0
      replace hx415_1 := (HB.out.cell (World.block_lt_of_cell? w _ hx415_1)).trans hx415_1
      replace hx415_2 := (HB.out.cell (World.block_lt_of_cell? w _ hx415_2)).trans hx415_2
      replace hx415_3 := (HB.out.cell (World.block_lt_of_cell? w _ hx415_3)).trans hx415_3
      replace hx415_4 := (HB.out.cell (World.block_lt_of_cell? w _ hx415_4)).trans hx415_4
      replace p415 := eq_true p415
      replace q415 := eq_true q415
      go_wp2_with (first | ((with_reducible refine gate_dst (N := 9) rfl ?_); refine box_event ?hg (N := 9) ?hd (cs := #[.int .i64 0, .int .i64 0, .int .i64 0, .int .i64 0, .int .i64 0]) (t := 93) ?hr ?_; (case hd => rfl); (case hg => rfl); (case hr => exact g10); intro gb416 hg w16 hbox hb; have n_ := spec_DrawRanked.K10_ (blk_below (g := gb412) (o := .cells #[.slice A0_0 l0_0.length c0_0, .slice A0_1 l0_1.length c0_1, .int .i64 a0_2, .slice (some ad413) l0_3.length c0_3] 46 (0, 0)) (g2 BK412.out) hb) (blk_below (g := gb414) (o := .cells #[.slice (some ad415) ((rd_T68 l0_3 x13_1).f0).length c413_0] 68 (0, 0)) (g2 BK414.out) hb) (below_step (g18 HB.out GE412.out GE414.out) hb) hbox ((g32 HB.out GE412.out GE414.out : w.heap.size ≤ gb416)) ((g32 HB.out GE412.out GE414.out : w.heap.size ≤ gb416)) ((spec_DrawRanked.z0 : gb412 ≠ gb416)) ((spec_DrawRanked.z1 : gb416 ≠ gb412)) ((spec_DrawRanked.z2 : gb414 ≠ gb416)) ((spec_DrawRanked.z3 : gb416 ≠ gb414)); clear BK412 BK414 HB; obtain ⟨BK412, BK414, HB, BK416, GW416, GE416, NB412_416, NB416_412, NB414_416, NB416_414⟩ := n_; clear hb hbox hg; have hnb17 := NB416_412.out; have hnc17 := NB412_416.out; have hnb18 := NB416_414.out; have hnc18 := NB414_416.out; have hcz19_0 : w16.cell? ⟨gb416, 0, none⟩ = some (.int .i64 0) := (blk_cell BK416.out 0).trans rfl; have hcz19_1 : w16.cell? ⟨gb416, 1, none⟩ = some (.int .i64 0) := (blk_cell BK416.out 1).trans rfl; have hcz19_2 : w16.cell? ⟨gb416, 2, none⟩ = some (.int .i64 0) := (blk_cell BK416.out 2).trans rfl; have hcz19_3 : w16.cell? ⟨gb416, 3, none⟩ = some (.int .i64 0) := (blk_cell BK416.out 3).trans rfl; have hcz19_4 : w16.cell? ⟨gb416, 4, none⟩ = some (.int .i64 0) := (blk_cell BK416.out 4).trans rfl; have hfz19_0 := blk_frozen BK416.out 0; have hfz19_1 := blk_frozen BK416.out 1; have hfz19_2 := blk_frozen BK416.out 2; have hfz19_3 := blk_frozen BK416.out 3; have hfz19_4 := blk_frozen BK416.out 4) | ((with_reducible refine gate_callee (f := 84) rfl ?_); refine goesL_ (some 25) rfl rfl Try.func84 (by kernel_rfl) rfl #[.agg #[.int .i64 ((rd_T93 ((rd_T68 l0_3 x13_1).f0) x20_2).f0), .int .i64 ((rd_T93 ((rd_T68 l0_3 x13_1).f0) x20_2).f1), .int .i64 ((rd_T93 ((rd_T68 l0_3 x13_1).f0) x20_2).f2), .int .i64 ((rd_T93 ((rd_T68 l0_3 x13_1).f0) x20_2).f3), .int .i64 ((rd_T93 ((rd_T68 l0_3 x13_1).f0) x20_2).f4)]] rfl (g9) ?_; (with_reducible refine (impl_isLeaf.calls ((rd_T93 ((rd_T68 l0_3 x13_1).f0) x20_2).f0) ((rd_T93 ((rd_T68 l0_3 x13_1).f0) x20_2).f1) ((rd_T93 ((rd_T68 l0_3 x13_1).f0) x20_2).f2) ((rd_T93 ((rd_T68 l0_3 x13_1).f0) x20_2).f3) ((rd_T93 ((rd_T68 l0_3 x13_1).f0) x20_2).f4) true _ A14.out).mono ?_); rintro e w20 ⟨rfl, hb⟩; refine ⟨_, rfl, ?_⟩; have n_ := spec_DrawRanked.K4_ (blk_below (g := gb412) (o := .cells #[.slice A0_0 l0_0.length c0_0, .slice A0_1 l0_1.length c0_1, .int .i64 a0_2, .slice (some ad413) l0_3.length c0_3] 46 (0, 0)) (g17 NB412_416.out BK412.out) hb) (blk_below (g := gb414) (o := .cells #[.slice (some ad415) ((rd_T68 l0_3 x13_1).f0).length c413_0] 68 (0, 0)) (g17 NB414_416.out BK414.out) hb) (blk_below (g := gb416) (o := .cells #[.int .i64 ((rd_T93 ((rd_T68 l0_3 x13_1).f0) x20_2).f0), .int .i64 ((rd_T93 ((rd_T68 l0_3 x13_1).f0) x20_2).f1), .int .i64 ((rd_T93 ((rd_T68 l0_3 x13_1).f0) x20_2).f2), .int .i64 ((rd_T93 ((rd_T68 l0_3 x13_1).f0) x20_2).f3), .int .i64 ((rd_T93 ((rd_T68 l0_3 x13_1).f0) x20_2).f4)] 93 (0, 0)) spec_DrawRanked.z4 hb) (below_step (g33 HB.out GE412.out GE414.out GE416.out) hb); clear BK412 BK414 BK416 HB; obtain ⟨BK412, BK414, BK416, HB⟩ := n_; (try clear hb); (try clear hb2); (try clear hk); (try clear hi)))
      go_roundg k2
      case measure => have := HK1.out; have := HK2.out; omega
      case rel => exact ⟨(x5_2), (wrap64 (x20_2 + 1)), (g0), (g0), H', ⟨by have := HK1.out; have := HK2.out; omega⟩, ⟨g2 BK412.out⟩, ⟨g2 BK414.out⟩, ⟨g33 HB.out GE412.out GE414.out GE416.out⟩⟩
     replace c15 := Bool.eq_false_iff.mpr c15
     subst c15
     have H1 : (if ((rd_T93 ((rd_T68 l0_3 x13_1).f0) x20_2).f0) = a1 then (impl_UsesOf.l1 k2 a1 (wrap64 (x5_2 + 1)) l0_3 (l0_3.length : Int) x13_1 ((rd_T68 l0_3 x13_1).f0) (((rd_T68 l0_3 x13_1).f0).length : Int) (wrap64 (x20_2 + 1))) else (impl_UsesOf.l1 k2 a1 x5_2 l0_3 (l0_3.length : Int) x13_1 ((rd_T68 l0_3 x13_1).f0) (((rd_T68 l0_3 x13_1).f0).length : Int) (wrap64 (x20_2 + 1)))) = some r := by rw [if_neg (show ¬ (false = true) by decide)] at H; exact H
     clear H
     have H := H1
     clear H1
     have HZ21 := Aside0.mk H
     clear H
     have p415 : 0 ≤ (x20_2 : Int) := of_decide_eq_true (g6)
     have q415 : x20_2 < (((rd_T68 l0_3 x13_1).f0).length : Int) := of_decide_eq_true (g6)
     obtain ⟨ad415, e415, hx415_0, hx415_1, hx415_2, hx415_3, hx415_4⟩ := at_T93 HR413_0.out x20_2 p415 q415
     cases e415
     replace hx415_0 := (HB.out.cell (World.block_lt_of_cell? w _ hx415_0)).trans hx415_0
     replace hx415_1 := (HB.out.cell (World.block_lt_of_cell? w _ hx415_1)).trans hx415_1
     replace hx415_2 := (HB.out.cell (World.block_lt_of_cell? w _ hx415_2)).trans hx415_2
     replace hx415_3 := (HB.out.cell (World.block_lt_of_cell? w _ hx415_3)).trans hx415_3
     replace hx415_4 := (HB.out.cell (World.block_lt_of_cell? w _ hx415_4)).trans hx415_4
     replace p415 := eq_true p415
     replace q415 := eq_true q415
     go_upto_if 32 with (first | ((with_reducible refine gate_dst (N := 9) rfl ?_); refine box_event ?hg (N := 9) ?hd (cs := #[.int .i64 0, .int .i64 0, .int .i64 0, .int .i64 0, .int .i64 0]) (t := 93) ?hr ?_; (case hd => rfl); (case hg => rfl); (case hr => exact g10); intro gb416 hg w22 hbox hb; have n_ := spec_DrawRanked.K10_ (blk_below (g := gb412) (o := .cells #[.slice A0_0 l0_0.length c0_0, .slice A0_1 l0_1.length c0_1, .int .i64 a0_2, .slice (some ad413) l0_3.length c0_3] 46 (0, 0)) (g2 BK412.out) hb) (blk_below (g := gb414) (o := .cells #[.slice (some ad415) ((rd_T68 l0_3 x13_1).f0).length c413_0] 68 (0, 0)) (g2 BK414.out) hb) (below_step (g18 HB.out GE412.out GE414.out) hb) hbox ((g32 HB.out GE412.out GE414.out : w.heap.size ≤ gb416)) ((g32 HB.out GE412.out GE414.out : w.heap.size ≤ gb416)) ((spec_DrawRanked.z0 : gb412 ≠ gb416)) ((spec_DrawRanked.z1 : gb416 ≠ gb412)) ((spec_DrawRanked.z2 : gb414 ≠ gb416)) ((spec_DrawRanked.z3 : gb416 ≠ gb414)); clear BK412 BK414 HB; obtain ⟨BK412, BK414, HB, BK416, GW416, GE416, NB412_416, NB416_412, NB414_416, NB416_414⟩ := n_; clear hb hbox hg; have hnb23 := NB416_412.out; have hnc23 := NB412_416.out; have hnb24 := NB416_414.out; have hnc24 := NB414_416.out; have hcz25_0 : w22.cell? ⟨gb416, 0, none⟩ = some (.int .i64 0) := (blk_cell BK416.out 0).trans rfl; have hcz25_1 : w22.cell? ⟨gb416, 1, none⟩ = some (.int .i64 0) := (blk_cell BK416.out 1).trans rfl; have hcz25_2 : w22.cell? ⟨gb416, 2, none⟩ = some (.int .i64 0) := (blk_cell BK416.out 2).trans rfl; have hcz25_3 : w22.cell? ⟨gb416, 3, none⟩ = some (.int .i64 0) := (blk_cell BK416.out 3).trans rfl; have hcz25_4 : w22.cell? ⟨gb416, 4, none⟩ = some (.int .i64 0) := (blk_cell BK416.out 4).trans rfl; have hfz25_0 := blk_frozen BK416.out 0; have hfz25_1 := blk_frozen BK416.out 1; have hfz25_2 := blk_frozen BK416.out 2; have hfz25_3 := blk_frozen BK416.out 3; have hfz25_4 := blk_frozen BK416.out 4) | ((with_reducible refine gate_callee (f := 84) rfl ?_); refine goesL_ (some 25) rfl rfl Try.func84 (by kernel_rfl) rfl #[.agg #[.int .i64 ((rd_T93 ((rd_T68 l0_3 x13_1).f0) x20_2).f0), .int .i64 ((rd_T93 ((rd_T68 l0_3 x13_1).f0) x20_2).f1), .int .i64 ((rd_T93 ((rd_T68 l0_3 x13_1).f0) x20_2).f2), .int .i64 ((rd_T93 ((rd_T68 l0_3 x13_1).f0) x20_2).f3), .int .i64 ((rd_T93 ((rd_T68 l0_3 x13_1).f0) x20_2).f4)]] rfl (g9) ?_; (with_reducible refine (impl_isLeaf.calls ((rd_T93 ((rd_T68 l0_3 x13_1).f0) x20_2).f0) ((rd_T93 ((rd_T68 l0_3 x13_1).f0) x20_2).f1) ((rd_T93 ((rd_T68 l0_3 x13_1).f0) x20_2).f2) ((rd_T93 ((rd_T68 l0_3 x13_1).f0) x20_2).f3) ((rd_T93 ((rd_T68 l0_3 x13_1).f0) x20_2).f4) false _ A14.out).mono ?_); rintro e w26 ⟨rfl, hb⟩; refine ⟨_, rfl, ?_⟩; have n_ := spec_DrawRanked.K4_ (blk_below (g := gb412) (o := .cells #[.slice A0_0 l0_0.length c0_0, .slice A0_1 l0_1.length c0_1, .int .i64 a0_2, .slice (some ad413) l0_3.length c0_3] 46 (0, 0)) (g17 NB412_416.out BK412.out) hb) (blk_below (g := gb414) (o := .cells #[.slice (some ad415) ((rd_T68 l0_3 x13_1).f0).length c413_0] 68 (0, 0)) (g17 NB414_416.out BK414.out) hb) (blk_below (g := gb416) (o := .cells #[.int .i64 ((rd_T93 ((rd_T68 l0_3 x13_1).f0) x20_2).f0), .int .i64 ((rd_T93 ((rd_T68 l0_3 x13_1).f0) x20_2).f1), .int .i64 ((rd_T93 ((rd_T68 l0_3 x13_1).f0) x20_2).f2), .int .i64 ((rd_T93 ((rd_T68 l0_3 x13_1).f0) x20_2).f3), .int .i64 ((rd_T93 ((rd_T68 l0_3 x13_1).f0) x20_2).f4)] 93 (0, 0)) spec_DrawRanked.z4 hb) (below_step (g33 HB.out GE412.out GE414.out GE416.out) hb); clear BK412 BK414 BK416 HB; obtain ⟨BK412, BK414, BK416, HB⟩ := n_; (try clear hb); (try clear hb2); (try clear hk); (try clear hi); have hcz27_0 : w26.cell? ⟨gb416, 0, none⟩ = some (.int .i64 ((rd_T93 ((rd_T68 l0_3 x13_1).f0) x20_2).f0)) := (blk_cell BK416.out 0).trans rfl; have hcz27_1 : w26.cell? ⟨gb416, 1, none⟩ = some (.int .i64 ((rd_T93 ((rd_T68 l0_3 x13_1).f0) x20_2).f1)) := (blk_cell BK416.out 1).trans rfl; have hcz27_2 : w26.cell? ⟨gb416, 2, none⟩ = some (.int .i64 ((rd_T93 ((rd_T68 l0_3 x13_1).f0) x20_2).f2)) := (blk_cell BK416.out 2).trans rfl; have hcz27_3 : w26.cell? ⟨gb416, 3, none⟩ = some (.int .i64 ((rd_T93 ((rd_T68 l0_3 x13_1).f0) x20_2).f3)) := (blk_cell BK416.out 3).trans rfl; have hcz27_4 : w26.cell? ⟨gb416, 4, none⟩ = some (.int .i64 ((rd_T93 ((rd_T68 l0_3 x13_1).f0) x20_2).f4)) := (blk_cell BK416.out 4).trans rfl; have hfz27_0 := blk_frozen BK416.out 0; have hfz27_1 := blk_frozen BK416.out 1; have hfz27_2 := blk_frozen BK416.out 2; have hfz27_3 := blk_frozen BK416.out 3; have hfz27_4 := blk_frozen BK416.out 4))
     (try simp only [Act.put, List.setIfInBounds_toArray, List.set_cons_zero, List.set_cons_succ])
     have H := HZ21.out
     clear HZ21
     by_cases c28 : ((rd_T93 ((rd_T68 l0_3 x13_1).f0) x20_2).f0) = a1
     case neg =>
      rw [if_neg c28] at H
      have c28b0 : (((rd_T93 ((rd_T68 l0_3 x13_1).f0) x20_2).f0) == a1) = false := beq_eq_false_iff_ne.mpr c28
      have c28b1 : (((rd_T93 ((rd_T68 l0_3 x13_1).f0) x20_2).f0) != a1) = true := bne_iff_ne.mpr c28
      (first | rw [c28b0] | (simp only [i64_w, i32_w]; rw [c28b0]) | skip)
      have H' := Aside0.mk H
      clear H
      go_wp2
      go_roundg k2
      case measure => have := HK1.out; have := HK2.out; omega
      case rel => exact ⟨(x5_2), (wrap64 (x20_2 + 1)), (g0), (g0), H', ⟨by have := HK1.out; have := HK2.out; omega⟩, ⟨g2 BK412.out⟩, ⟨g2 BK414.out⟩, ⟨g33 HB.out GE412.out GE414.out GE416.out⟩⟩
     rw [if_pos c28] at H
     have c28b0 : (((rd_T93 ((rd_T68 l0_3 x13_1).f0) x20_2).f0) == a1) = true := beq_iff_eq.mpr c28
     have c28b1 : (((rd_T93 ((rd_T68 l0_3 x13_1).f0) x20_2).f0) != a1) = false := bne_eq_false_iff_eq.mpr c28
     clear c28
     (first | rw [c28b0] | (simp only [i64_w, i32_w]; rw [c28b0]) | skip)
     have H' := Aside0.mk H
     clear H
     go_wp2
     go_roundg k2
     case measure => have := HK1.out; have := HK2.out; omega
     case rel => exact ⟨(wrap64 (x5_2 + 1)), (wrap64 (x20_2 + 1)), (g0), (g0), H', ⟨by have := HK1.out; have := HK2.out; omega⟩, ⟨g2 BK412.out⟩, ⟨g2 BK414.out⟩, ⟨g33 HB.out GE412.out GE414.out GE416.out⟩⟩
def cmp_isNaN_int.f (a0 : Int) : Option (Bool) := some (a0 != a0)
set_option maxHeartbeats 8000000 in
set_option maxRecDepth 100000 in
theorem cmp_isNaN_int.calls (a0 : Int) (r : Bool) (w : World) (h : cmp_isNaN_int.f a0 = some r) :
    Calls Try.prog 119 #[.int .i64 a0] w fun e w' => e = .returned (.bool r) ∧ Drawn0 w w' := by
 have H : (some (a0 != a0)) = some r := h
 clear h
 obtain rfl := Option.some.inj H
 go_enter Try.func119, Try.ntmps119
 go_wp2
 go_ret
 exact ⟨g0, g21⟩
def cmp_Compare_int.f (a0 : Int) (a1 : Int) : Option (Int) := (cmp_isNaN_int.f a0).bind fun t418 => ((cmp_isNaN_int.f a1).bind fun t419 => (if t418 = true then (if t419 = true then (some 0) else (some (-1))) else (if t419 = true then (some 1) else (if a0 < a1 then (some (-1)) else (if a0 > a1 then (some 1) else (some 0))))))
set_option maxHeartbeats 8000000 in
set_option maxRecDepth 100000 in
theorem cmp_Compare_int.calls (a0 : Int) (a1 : Int) (r : Int) (w : World) (h : cmp_Compare_int.f a0 a1 = some r) :
    Calls Try.prog 82 #[.int .i64 a0, .int .i64 a1] w fun e w' => e = .returned (.int .i64 r) ∧ Drawn0 w w' := by
 have H : ((cmp_isNaN_int.f a0).bind fun t418 => ((cmp_isNaN_int.f a1).bind fun t419 => (if t418 = true then (if t419 = true then (some 0) else (some (-1))) else (if t419 = true then (some 1) else (if a0 < a1 then (some (-1)) else (if a0 > a1 then (some 1) else (some 0))))))) = some r := h
 clear h
 replace H := Option.bind_eq_some_iff.mp H
 obtain ⟨t418, A30, H⟩ := H
 replace H : ((cmp_isNaN_int.f a1).bind fun t419 => (if t418 = true then (if t419 = true then (some 0) else (some (-1))) else (if t419 = true then (some 1) else (if a0 < a1 then (some (-1)) else (if a0 > a1 then (some 1) else (some 0)))))) = some r := H
 have A3 := Aside0.mk A30
 clear A30
 replace H := Option.bind_eq_some_iff.mp H
 obtain ⟨t419, A40, H⟩ := H
 replace H : (if t418 = true then (if t419 = true then (some 0) else (some (-1))) else (if t419 = true then (some 1) else (if a0 < a1 then (some (-1)) else (if a0 > a1 then (some 1) else (some 0))))) = some r := H
 have A4 := Aside0.mk A40
 clear A40
 have HZ5 := Aside0.mk H
 clear H
 go_enter Try.func82, Try.ntmps82
 go_upto_if 11 with (first | ((with_reducible refine gate_callee (f := 119) rfl ?_); refine goesL_ (some 8) rfl rfl Try.func119 (by kernel_rfl) rfl #[.int .i64 a0] rfl (g9) ?_; (with_reducible refine (cmp_isNaN_int.calls a0 t418 _ A3.out).mono ?_); rintro e w' ⟨rfl, ⟨nd, rfl⟩⟩; refine ⟨_, rfl, ?_⟩) | ((with_reducible refine gate_callee (f := 119) rfl ?_); refine goesL_ (some 10) rfl rfl Try.func119 (by kernel_rfl) rfl #[.int .i64 a1] rfl (g9) ?_; (with_reducible refine (cmp_isNaN_int.calls a1 t419 _ A4.out).mono ?_); rintro e w' ⟨rfl, ⟨nd, rfl⟩⟩; refine ⟨_, rfl, ?_⟩))
 (try simp only [Act.put, List.setIfInBounds_toArray, List.set_cons_zero, List.set_cons_succ])
 have H := HZ5.out
 clear HZ5
 by_cases c6 : t418 = true
 case pos =>
  subst c6
  have H1 : (if t419 = true then (some 0) else (some (-1))) = some r := by rw [if_pos rfl] at H; exact H
  clear H
  have H := H1
  clear H1
  by_cases c7 : t419 = true
  case pos =>
   subst c7
   have H1 : (some 0) = some r := by rw [if_pos rfl] at H; exact H
   clear H
   have H := H1
   clear H1
   obtain rfl := Option.some.inj H
   go_wp2
   go_ret
   exact ⟨g0, g21⟩
  replace c7 := Bool.eq_false_iff.mpr c7
  subst c7
  have H1 : (some (-1)) = some r := by rw [if_neg (show ¬ (false = true) by decide)] at H; exact H
  clear H
  have H := H1
  clear H1
  obtain rfl := Option.some.inj H
  go_wp2
  go_ret
  exact ⟨g0, g21⟩
 replace c6 := Bool.eq_false_iff.mpr c6
 subst c6
 have H1 : (if t419 = true then (some 1) else (if a0 < a1 then (some (-1)) else (if a0 > a1 then (some 1) else (some 0)))) = some r := by rw [if_neg (show ¬ (false = true) by decide)] at H; exact H
 clear H
 have H := H1
 clear H1
 by_cases c8 : t419 = true
 case pos =>
  subst c8
  have H1 : (some 1) = some r := by rw [if_pos rfl] at H; exact H
  clear H
  have H := H1
  clear H1
  obtain rfl := Option.some.inj H
  go_wp2
  go_ret
  exact ⟨g0, g21⟩
 replace c8 := Bool.eq_false_iff.mpr c8
 subst c8
 have H1 : (if a0 < a1 then (some (-1)) else (if a0 > a1 then (some 1) else (some 0))) = some r := by rw [if_neg (show ¬ (false = true) by decide)] at H; exact H
 clear H
 have H := H1
 clear H1
 by_cases c9 : a0 < a1
 case pos =>
  rw [if_pos c9] at H
  have c9b0 : decide (a0 < a1) = true := decide_eq_true c9
  clear c9
  (first | rw [c9b0] | (simp only [i64_w, i32_w]; rw [c9b0]) | skip)
  obtain rfl := Option.some.inj H
  go_wp2
  go_ret
  exact ⟨g0, g21⟩
 rw [if_neg c9] at H
 have c9b0 : decide (a0 < a1) = false := decide_eq_false c9
 clear c9
 (first | rw [c9b0] | (simp only [i64_w, i32_w]; rw [c9b0]) | skip)
 by_cases c10 : a0 > a1
 case neg =>
  rw [if_neg c10] at H
  have c10b0 : decide (a1 < a0) = false := decide_eq_false c10
  clear c10
  obtain rfl := Option.some.inj H
  go_wp2
  go_ret
  exact ⟨g0, g21⟩
 rw [if_pos c10] at H
 have c10b0 : decide (a1 < a0) = true := decide_eq_true c10
 clear c10
 obtain rfl := Option.some.inj H
 go_wp2
 go_ret
 exact ⟨g0, g21⟩
def impl_Ranked_1_c.f (k : Nat) (a0 : Int) (a1 : Int) (l2_0 : List ByteArray) (l2_1 : List Int) (a2_2 : Int) (l2_3 : List (S68)) : Option (Int) := (impl_UsesOf.f k l2_0 l2_1 a2_2 l2_3 a1).bind fun t420 => ((impl_UsesOf.f k l2_0 l2_1 a2_2 l2_3 a0).bind fun t421 => ((cmp_Compare_int.f t420 t421).bind fun t422 => (some t422)))
def impl_Ranked_1_c.T1 : Bool × List (List Nat × List Nat) := (true, [([], []), ([], []), ([0, 1], [0, 1]), ([], []), ([], []), ([3, 4, 2], [3, 4]), ([2, 5, 5], [2, 5]), ([6, 6, 0, 1, 2, 3, 4, 5, 6], [6])])
def impl_Ranked_1_c.B1 : List Nat := [0, 0, 3, 0, 0, 31, 63, 127]
theorem impl_Ranked_1_c.tab1 : rtab .any (opsOf Try.f81 1) = impl_Ranked_1_c.T1 := by kernel_rfl
theorem impl_Ranked_1_c.bits1 : waitsOk impl_Ranked_1_c.T1.2 impl_Ranked_1_c.B1 = true := by kernel_rfl
set_option maxHeartbeats 8000000 in
set_option maxRecDepth 100000 in
theorem impl_Ranked_1_c.calls (k : Nat) (a0 : Int) (a1 : Int) (g2_0_ : Nat) (A2_0 : Option Addr) (c2_0 : Nat) (l2_0 : List ByteArray) (A2_1 : Option Addr) (c2_1 : Nat) (l2_1 : List Int) (a2_2 : Int) (A2_3 : Option Addr) (c2_3 : Nat) (l2_3 : List (S68)) (r : Int) (w : World) (hk2_0 : w.heap[g2_0_]? = some (.cells #[.slice A2_0 l2_0.length c2_0, .slice A2_1 l2_1.length c2_1, .int .i64 a2_2, .slice A2_3 l2_3.length c2_3] 46 (0, 0))) (hr2_0 : Kd.C Kd.string w A2_0 l2_0.length l2_0) (hc2_0 : l2_0.length ≤ c2_0) (hr2_1 : Kd.C (Kd.int .i64) w A2_1 l2_1.length l2_1) (hc2_1 : l2_1.length ≤ c2_1) (hr2_3 : Kd.C k68 w A2_3 l2_3.length l2_3) (hc2_3 : l2_3.length ≤ c2_3) (h : impl_Ranked_1_c.f k a0 a1 l2_0 l2_1 a2_2 l2_3 = some r) :
    Calls Try.prog 81 #[.int .i64 a0, .int .i64 a1, .pointer (some ⟨g2_0_, 0, none⟩)] w fun e w' => e = .returned (.int .i64 r) ∧ Below w.heap.size w w' := by
 have hu46 := Try.underlying46
 have HR2_0 := Aside0.mk hr2_0
 have HC2_0 := Aside0.mk hc2_0
 clear hr2_0 hc2_0
 have HR2_1 := Aside0.mk hr2_1
 have HC2_1 := Aside0.mk hc2_1
 clear hr2_1 hc2_1
 have HR2_3 := Aside0.mk hr2_3
 have HC2_3 := Aside0.mk hc2_3
 clear hr2_3 hc2_3
 have BK90020 := Aside0.mk hk2_0
 clear hk2_0
 have HB := Aside0.mk (Below.refl w.heap.size w)
 have H : ((impl_UsesOf.f k l2_0 l2_1 a2_2 l2_3 a1).bind fun t420 => ((impl_UsesOf.f k l2_0 l2_1 a2_2 l2_3 a0).bind fun t421 => ((cmp_Compare_int.f t420 t421).bind fun t422 => (some t422)))) = some r := h
 clear h
 replace H := Option.bind_eq_some_iff.mp H
 obtain ⟨t420, A40, H⟩ := H
 replace H : ((impl_UsesOf.f k l2_0 l2_1 a2_2 l2_3 a0).bind fun t421 => ((cmp_Compare_int.f t420 t421).bind fun t422 => (some t422))) = some r := H
 have A4 := Aside0.mk A40
 clear A40
 replace H := Option.bind_eq_some_iff.mp H
 obtain ⟨t421, A50, H⟩ := H
 replace H : ((cmp_Compare_int.f t420 t421).bind fun t422 => (some t422)) = some r := H
 have A5 := Aside0.mk A50
 clear A50
 replace H := Option.bind_eq_some_iff.mp H
 obtain ⟨t422, A60, H⟩ := H
 replace H : (some t422) = some r := H
 have A6 := Aside0.mk A60
 clear A60
 obtain rfl := Option.some.inj H
 go_enter Try.func81, Try.ntmps81
 try go_wp2
 have n_ := spec_DrawRanked.K2_ (blk_drew BK90020.out) (below_drew1 HB.out)
 clear BK90020 HB
 obtain ⟨BK90020, HB⟩ := n_
 refine start_ (n := 8) (S := fun w' => w'.cell? ⟨g2_0_, 0, none⟩ = some (.slice A2_0 l2_0.length c2_0) ∧ w'.cell? ⟨g2_0_, 1, none⟩ = some (.slice A2_1 l2_1.length c2_1) ∧ w'.cell? ⟨g2_0_, 2, none⟩ = some (.int .i64 a2_2) ∧ w'.cell? ⟨g2_0_, 3, none⟩ = some (.slice A2_3 l2_3.length c2_3)) (ds := []) #[false, false, false, false, false, false, false, false] (by kernel_rfl) rfl rfl ⟨(blk_cell BK90020.out 0).trans rfl, (blk_cell BK90020.out 1).trans rfl, (blk_cell BK90020.out 2).trans rfl, (blk_cell BK90020.out 3).trans rfl⟩ (fun hHeld => ?_); refine with_tabW impl_Ranked_1_c.tab1 impl_Ranked_1_c.bits1 (fun HT_ HW_ => ?_)
 generalize w.drew = w7 at BK90020 HB hHeld ⊢
 refine pure_ (i := 1) (N := some 7) (v := ?_) (a' := ?_) #[false, true, false, false, false, false, false, false] rfl rfl (any_of HT_.out (by kernel_rfl)) (fun _ _ _ h => h) (Or.inl ⟨by rfl, ?_⟩) ?_ ?_
 rotate_left
 ·intro w'
  go_simp
  with_reducible rfl
 rotate_left
 ·exact ga0
 refine pure_ (i := 4) (N := some 10) (v := ?_) (a' := ?_) #[false, true, false, false, true, false, false, false] rfl rfl (any_of HT_.out (by kernel_rfl)) (fun _ _ _ h => h) (Or.inl ⟨by rfl, ?_⟩) ?_ ?_
 rotate_left
 ·intro w'
  go_simp
  with_reducible rfl
 rotate_left
 ·exact ga0
 refine take_ (i := 0) (N := some 6) (v := ?_) (a' := ?_) #[true, true, false, false, true, false, false, false] rfl rfl (take_ofW HT_.out HW_.out (by kernel_rfl)) (fun _ _ _ h => h) (Or.inl ⟨by rfl, ?_⟩) hHeld ?_ ?_
 rotate_left
 ·rintro w' ⟨s0, s1, s2, s3⟩
  go_simp
  with_reducible rfl
 rotate_left
 ·exact ga0
 refine take_ (i := 3) (N := some 9) (v := ?_) (a' := ?_) #[true, true, false, true, true, false, false, false] rfl rfl (take_ofW HT_.out HW_.out (by kernel_rfl)) (fun _ _ _ h => h) (Or.inl ⟨by rfl, ?_⟩) hHeld ?_ ?_
 rotate_left
 ·rintro w' ⟨s0, s1, s2, s3⟩
  go_simp
  with_reducible rfl
 rotate_left
 ·exact ga0
 refine one_ (i := 2) (N := some 8) #[true, true, true, true, true, false, false, false] rfl rfl (one_of HT_.out (by kernel_rfl)) (by decide) (fun K hK => ?_)
 refine goes_ Try.func36 (by kernel_rfl) rfl #[.agg #[.slice A2_0 l2_0.length c2_0, .slice A2_1 l2_1.length c2_1, .int .i64 a2_2, .slice A2_3 l2_3.length c2_3], .int .i64 a1] (by rfl) rfl rfl (g9) ?_
 with_reducible refine (impl_UsesOf.calls k _ _ l2_0 _ _ l2_1 a2_2 _ _ l2_3 a1 t420 _ ?side1 ?side2 ?side3 ?side4 ?side5 ?side6 A4.out).mono ?_
 (case side1 => exact g20 HR2_0.out HB.out)
 (case side2 => exact HC2_0.out)
 (case side3 => exact g20 HR2_1.out HB.out)
 (case side4 => exact HC2_1.out)
 (case side5 => exact g20 HR2_3.out HB.out)
 (case side6 => exact HC2_3.out)
 rintro e w8 ⟨rfl, hb⟩
 refine ⟨_, rfl, ?_⟩
 have n_ := spec_DrawRanked.K2_ (blk_below (g := g2_0_) (o := .cells #[.slice A2_0 l2_0.length c2_0, .slice A2_1 l2_1.length c2_1, .int .i64 a2_2, .slice A2_3 l2_3.length c2_3] 46 (0, 0)) (g2 BK90020.out) hb) (below_step (g4 HB.out) hb)
 clear BK90020 HB
 obtain ⟨BK90020, HB⟩ := n_
 (try clear hb)
 (try clear hb2)
 (try clear hk)
 (try clear hi)
 refine hK.out _ _ ⟨(blk_cell BK90020.out 0).trans rfl, (blk_cell BK90020.out 1).trans rfl, (blk_cell BK90020.out 2).trans rfl, (blk_cell BK90020.out 3).trans rfl⟩ (fun hHeld => ?_)
 clear hK K
 refine norm_ (a' := ?_) ?_ ?_
 rotate_left
 ·show Act.put _ (some 8) _ = _
  simp only [Act.put, List.setIfInBounds_toArray, List.set_cons_zero, List.set_cons_succ, i64_w, i32_w]
  rfl
 refine one_ (i := 5) (N := some 11) #[true, true, true, true, true, true, false, false] rfl rfl (one_of HT_.out (by kernel_rfl)) (by decide) (fun K hK => ?_)
 refine goes_ Try.func36 (by kernel_rfl) rfl #[.agg #[.slice A2_0 l2_0.length c2_0, .slice A2_1 l2_1.length c2_1, .int .i64 a2_2, .slice A2_3 l2_3.length c2_3], .int .i64 a0] (by rfl) rfl rfl (g9) ?_
 with_reducible refine (impl_UsesOf.calls k _ _ l2_0 _ _ l2_1 a2_2 _ _ l2_3 a0 t421 _ ?side1 ?side2 ?side3 ?side4 ?side5 ?side6 A5.out).mono ?_
 (case side1 => exact g20 HR2_0.out HB.out)
 (case side2 => exact HC2_0.out)
 (case side3 => exact g20 HR2_1.out HB.out)
 (case side4 => exact HC2_1.out)
 (case side5 => exact g20 HR2_3.out HB.out)
 (case side6 => exact HC2_3.out)
 rintro e w9 ⟨rfl, hb⟩
 refine ⟨_, rfl, ?_⟩
 have n_ := spec_DrawRanked.K2_ (blk_below (g := g2_0_) (o := .cells #[.slice A2_0 l2_0.length c2_0, .slice A2_1 l2_1.length c2_1, .int .i64 a2_2, .slice A2_3 l2_3.length c2_3] 46 (0, 0)) (g2 BK90020.out) hb) (below_step (g4 HB.out) hb)
 clear BK90020 HB
 obtain ⟨BK90020, HB⟩ := n_
 (try clear hb)
 (try clear hb2)
 (try clear hk)
 (try clear hi)
 refine hK.out _ _ ⟨(blk_cell BK90020.out 0).trans rfl, (blk_cell BK90020.out 1).trans rfl, (blk_cell BK90020.out 2).trans rfl, (blk_cell BK90020.out 3).trans rfl⟩ (fun hHeld => ?_)
 clear hK K
 refine norm_ (a' := ?_) ?_ ?_
 rotate_left
 ·show Act.put _ (some 11) _ = _
  simp only [Act.put, List.setIfInBounds_toArray, List.set_cons_zero, List.set_cons_succ, i64_w, i32_w]
  rfl
 refine one_ (i := 6) (N := some 12) #[true, true, true, true, true, true, true, false] rfl rfl (one_of HT_.out (by kernel_rfl)) (by decide) (fun K hK => ?_)
 refine goes_ Try.func82 (by kernel_rfl) rfl #[.int .i64 t420, .int .i64 t421] (by rfl) rfl rfl (g9) ?_
 with_reducible refine (cmp_Compare_int.calls t420 t421 t422 _ A6.out).mono ?_
 rintro e w' ⟨rfl, ⟨nd, rfl⟩⟩
 refine ⟨_, rfl, ?_⟩
 refine hK.out _ _ ⟨(blk_cell BK90020.out 0).trans rfl, (blk_cell BK90020.out 1).trans rfl, (blk_cell BK90020.out 2).trans rfl, (blk_cell BK90020.out 3).trans rfl⟩ (fun hHeld => ?_)
 clear hK K
 refine norm_ (a' := ?_) ?_ ?_
 rotate_left
 ·show Act.put _ (some 12) _ = _
  simp only [Act.put, List.setIfInBounds_toArray, List.set_cons_zero, List.set_cons_succ, i64_w, i32_w]
  rfl
 refine pure_ (i := 7) (N := some 5) (v := ?_) (a' := ?_) #[true, true, true, true, true, true, true, true] rfl rfl (any_of HT_.out (by kernel_rfl)) (fun _ _ _ h => h) (Or.inl ⟨by rfl, ?_⟩) ?_ ?_
 rotate_left
 ·intro w'
  go_simp
  with_reducible rfl
 rotate_left
 ·exact ga0
 refine done_ (done_of HT_.out (by kernel_rfl)) ?_
 try go_wp2
 go_ret
 exact ⟨g5, g4 HB.out⟩
end Go.Proofs.Yteoikmbdpofhmaa.XFnUses
