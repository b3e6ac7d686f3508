import Derived.Test.YtcgmdpnhlkbpbaaDoorVFnNodeTextXx0
import Derived.Test.YtcgmdpnhlkbpbaaDoorVFnNodeTextXx2
import Derived.Test.YtcgmdpnhlkbpbaaDoorVFnNodeTextXx8
import Derived.Test.YtcgmdpnhlkbpbaaDoorVFnNodeTextXx9
import Derived.Test.YtcgmdpnhlkbpbaaDoorVFnNodeTextXx10
namespace Go.Proofs.YtcgmdpnhlkbpbaaDoor.XFnNodeText
open Go.RowKit Go.Proofs.YtcgmdpnhlkbpbaaDoorW.PrintWords Go.Proofs.YtcgmdpnhlkbpbaaDoorW.PrintLast Go.Proofs.YtcgmdpnhlkbpbaaDoorW.PrintMore
attribute [local go_sem] max2_int min2_int max_two min_two max_three min_three max_four min_four
set_option linter.unusedVariables false
set_option linter.unusedSimpArgs false
theorem impl_ReadNode.K2_ {p0 p1 : Prop} (h0 : p0) (h1 : p1) : Aside0 p0 ∧ Aside0 p1 := ⟨⟨h0⟩, ⟨h1⟩⟩
theorem impl_ReadNode.K3_ {p0 p1 p2 : Prop} (h0 : p0) (h1 : p1) (h2 : p2) : Aside0 p0 ∧ Aside0 p1 ∧ Aside0 p2 := ⟨⟨h0⟩, ⟨h1⟩, ⟨h2⟩⟩
theorem impl_ReadNode.K4_ {p0 p1 p2 p3 : Prop} (h0 : p0) (h1 : p1) (h2 : p2) (h3 : p3) : Aside0 p0 ∧ Aside0 p1 ∧ Aside0 p2 ∧ Aside0 p3 := ⟨⟨h0⟩, ⟨h1⟩, ⟨h2⟩, ⟨h3⟩⟩
theorem impl_ReadNode.K7_ {p0 p1 p2 p3 p4 p5 p6 : Prop} (h0 : p0) (h1 : p1) (h2 : p2) (h3 : p3) (h4 : p4) (h5 : p5) (h6 : p6) : Aside0 p0 ∧ Aside0 p1 ∧ Aside0 p2 ∧ Aside0 p3 ∧ Aside0 p4 ∧ Aside0 p5 ∧ Aside0 p6 := ⟨⟨h0⟩, ⟨h1⟩, ⟨h2⟩, ⟨h3⟩, ⟨h4⟩, ⟨h5⟩, ⟨h6⟩⟩
def impl_ReadNode.f (k : Nat) (a0 : ByteArray) : Option (Int × Int × Int × Int × Int × Bool) := (strings_CutPrefix.f a0 (⟨#[61]⟩ : ByteArray)).bind fun bt352 => (if bt352.2 = true then ((impl_IntText.f bt352.1).bind fun bt354 => (if a0.toList = ([] : List UInt8) then (some (0, 0, 0, 0, 0, false)) else ((impl_NodeText.f k (-1) 0 0 0 bt354.1).bind fun t356 => (if t356.toList = a0.toList then (some ((-1), 0, 0, 0, bt354.1, true)) else (some (0, 0, 0, 0, 0, false)))))) else ((strings_Cut.f a0 (⟨#[60]⟩ : ByteArray)).bind fun bt357 => ((strings_Cut.f bt357.2.1 (⟨#[58]⟩ : ByteArray)).bind fun bt360 => ((strings_Cut.f bt360.2.1 (⟨#[44]⟩ : ByteArray)).bind fun bt363 => ((impl_IntText.f bt357.1).bind fun bt366 => ((impl_IntText.f bt360.1).bind fun bt368 => ((impl_IntText.f bt363.1).bind fun bt370 => ((impl_IntText.f bt363.2.1).bind fun bt372 => (if a0.toList = ([] : List UInt8) then (some (0, 0, 0, 0, 0, false)) else ((impl_NodeText.f k bt366.1 bt368.1 bt370.1 bt372.1 0).bind fun t374 => (if t374.toList = a0.toList then (some (bt366.1, bt368.1, bt370.1, bt372.1, 0, true)) else (some (0, 0, 0, 0, 0, false)))))))))))))
set_option maxHeartbeats 8000000 in
set_option maxRecDepth 100000 in
theorem impl_ReadNode.calls (k : Nat) (a0 : ByteArray) (r1 : Int) (r2 : Int) (r3 : Int) (r4 : Int) (r5 : Int) (r6 : Bool) (w : World) (hT : TabW w) (h : impl_ReadNode.f k a0 = some (r1, r2, r3, r4, r5, r6)) :
    Calls Tryd.prog 10 #[.string a0] w fun e w' => e = .returned (.tuple #[.agg #[.int .i64 r1, .int .i64 r2, .int .i64 r3, .int .i64 r4, .int .i64 r5], .bool r6]) ∧ Below w.heap.size w w' := by
 have hu23 := Tryd.underlying23
 have HB := Aside0.mk (Below.refl w.heap.size w)
 have HT := Aside0.mk hT
 clear hT
 have H : ((strings_CutPrefix.f a0 (⟨#[61]⟩ : ByteArray)).bind fun bt352 => (if bt352.2 = true then ((impl_IntText.f bt352.1).bind fun bt354 => (if a0.toList = ([] : List UInt8) then (some (0, 0, 0, 0, 0, false)) else ((impl_NodeText.f k (-1) 0 0 0 bt354.1).bind fun t356 => (if t356.toList = a0.toList then (some ((-1), 0, 0, 0, bt354.1, true)) else (some (0, 0, 0, 0, 0, false)))))) else ((strings_Cut.f a0 (⟨#[60]⟩ : ByteArray)).bind fun bt357 => ((strings_Cut.f bt357.2.1 (⟨#[58]⟩ : ByteArray)).bind fun bt360 => ((strings_Cut.f bt360.2.1 (⟨#[44]⟩ : ByteArray)).bind fun bt363 => ((impl_IntText.f bt357.1).bind fun bt366 => ((impl_IntText.f bt360.1).bind fun bt368 => ((impl_IntText.f bt363.1).bind fun bt370 => ((impl_IntText.f bt363.2.1).bind fun bt372 => (if a0.toList = ([] : List UInt8) then (some (0, 0, 0, 0, 0, false)) else ((impl_NodeText.f k bt366.1 bt368.1 bt370.1 bt372.1 0).bind fun t374 => (if t374.toList = a0.toList then (some (bt366.1, bt368.1, bt370.1, bt372.1, 0, true)) else (some (0, 0, 0, 0, 0, false)))))))))))))) = some (r1, r2, r3, r4, r5, r6) := h
 clear h
 replace H := Option.bind_eq_some_iff.mp H
 obtain ⟨⟨t352, t353⟩, A20, H⟩ := H
 replace H : (if t353 = true then ((impl_IntText.f t352).bind fun bt354 => (if a0.toList = ([] : List UInt8) then (some (0, 0, 0, 0, 0, false)) else ((impl_NodeText.f k (-1) 0 0 0 bt354.1).bind fun t356 => (if t356.toList = a0.toList then (some ((-1), 0, 0, 0, bt354.1, true)) else (some (0, 0, 0, 0, 0, false)))))) else ((strings_Cut.f a0 (⟨#[60]⟩ : ByteArray)).bind fun bt357 => ((strings_Cut.f bt357.2.1 (⟨#[58]⟩ : ByteArray)).bind fun bt360 => ((strings_Cut.f bt360.2.1 (⟨#[44]⟩ : ByteArray)).bind fun bt363 => ((impl_IntText.f bt357.1).bind fun bt366 => ((impl_IntText.f bt360.1).bind fun bt368 => ((impl_IntText.f bt363.1).bind fun bt370 => ((impl_IntText.f bt363.2.1).bind fun bt372 => (if a0.toList = ([] : List UInt8) then (some (0, 0, 0, 0, 0, false)) else ((impl_NodeText.f k bt366.1 bt368.1 bt370.1 bt372.1 0).bind fun t374 => (if t374.toList = a0.toList then (some (bt366.1, bt368.1, bt370.1, bt372.1, 0, true)) else (some (0, 0, 0, 0, 0, false))))))))))))) = some (r1, r2, r3, r4, r5, r6) := H
 have A2 := Aside0.mk A20
 clear A20
 have HZ3 := Aside0.mk H
 clear H
 go_enter Tryd.func10, Tryd.ntmps10
 go_upto_if 22 with (first | ((with_reducible refine gate_dst (N := 2) rfl ?_); refine box_event ?hg (N := 2) ?hd (cs := #[.int .i64 0, .int .i64 0, .int .i64 0, .int .i64 0, .int .i64 0]) (t := 23) ?hr ?_; (case hd => rfl); (case hg => rfl); (case hr => first | (go_simp; done) | (go_simp; rfl)); intro gb350 hg w4 hbox hb; have n_ := impl_ReadNode.K4_ (below_step (by repeat (first | (with_reducible first | exact HB.out | apply below_alloc | apply pw_below_drewN | apply below_drew1) | exact HB.out)) hb) hbox ((by rw [hg]; exact (below_size (by repeat (first | (with_reducible first | exact HB.out | apply below_alloc | apply pw_below_drewN | apply below_drew1) | exact HB.out))) : w.heap.size ≤ gb350)) ((by rw [hg]; exact (below_size (by repeat (first | (with_reducible first | exact HB.out | apply below_alloc | apply pw_below_drewN | apply below_drew1) | exact HB.out))) : w.heap.size ≤ gb350)); clear HB; obtain ⟨HB, BK350, GW350, GE350⟩ := n_; clear hb hbox hg) | ((with_reducible refine gate_dst (N := 4) rfl ?_); refine box_event ?hg (N := 4) ?hd (cs := #[.int .i64 0, .int .i64 0, .int .i64 0, .int .i64 0, .int .i64 0]) (t := 23) ?hr ?_; (case hd => rfl); (case hg => rfl); (case hr => first | (go_simp; done) | (go_simp; rfl)); intro gb351 hg w5 hbox hb; have n_ := impl_ReadNode.K7_ (blk_below (g := gb350) (o := .cells #[.int .i64 0, .int .i64 0, .int .i64 0, .int .i64 0, .int .i64 0] 23 (0, 0)) (by (with_reducible repeat (first | refine blk_drewN ?_ _ | refine blk_drew ?_ | refine blk_alloc ?_ _)); exact BK350.out) hb) (below_step (by repeat (first | (with_reducible first | exact HB.out | apply below_alloc | apply pw_below_drewN | apply below_drew1 | refine below_set ?_ GE350.out) | exact HB.out)) hb) hbox ((by rw [hg]; exact (below_size (by repeat (first | (with_reducible first | exact HB.out | apply below_alloc | apply pw_below_drewN | apply below_drew1 | refine below_set ?_ GE350.out) | exact HB.out))) : w.heap.size ≤ gb351)) ((by rw [hg]; exact (below_size (by repeat (first | (with_reducible first | exact HB.out | apply below_alloc | apply pw_below_drewN | apply below_drew1 | refine below_set ?_ GE350.out) | exact HB.out))) : w.heap.size ≤ gb351)) ((by rw [hg]; exact Nat.ne_of_lt (blk_lt (g := gb350) (o := .cells #[.int .i64 0, .int .i64 0, .int .i64 0, .int .i64 0, .int .i64 0] 23 (0, 0)) (by (with_reducible repeat (first | refine blk_drewN ?_ _ | refine blk_drew ?_ | refine blk_alloc ?_ _)); exact BK350.out)) : gb350 ≠ gb351)) ((by rw [hg]; exact Nat.ne_of_gt (blk_lt (g := gb350) (o := .cells #[.int .i64 0, .int .i64 0, .int .i64 0, .int .i64 0, .int .i64 0] 23 (0, 0)) (by (with_reducible repeat (first | refine blk_drewN ?_ _ | refine blk_drew ?_ | refine blk_alloc ?_ _)); exact BK350.out)) : gb351 ≠ gb350)); clear BK350 HB; obtain ⟨BK350, HB, BK351, GW351, GE351, NB350_351, NB351_350⟩ := n_; clear hb hbox hg; have hnb6 := NB351_350.out; have hnc6 := NB350_351.out; have hcz7_0 : w5.cell? ⟨gb351, 0, none⟩ = some (.int .i64 0) := (blk_cell BK351.out 0).trans rfl; have hcz7_1 : w5.cell? ⟨gb351, 1, none⟩ = some (.int .i64 0) := (blk_cell BK351.out 1).trans rfl; have hcz7_2 : w5.cell? ⟨gb351, 2, none⟩ = some (.int .i64 0) := (blk_cell BK351.out 2).trans rfl; have hcz7_3 : w5.cell? ⟨gb351, 3, none⟩ = some (.int .i64 0) := (blk_cell BK351.out 3).trans rfl; have hcz7_4 : w5.cell? ⟨gb351, 4, none⟩ = some (.int .i64 0) := (blk_cell BK351.out 4).trans rfl; have hfz7_0 := blk_frozen BK351.out 0; have hfz7_1 := blk_frozen BK351.out 1; have hfz7_2 := blk_frozen BK351.out 2; have hfz7_3 := blk_frozen BK351.out 3; have hfz7_4 := blk_frozen BK351.out 4) | ((with_reducible refine gate_callee (f := 43) rfl ?_); refine goesL_ (some 19) rfl rfl Tryd.func43 (by kernel_rfl) rfl #[.string a0, .string (⟨#[61]⟩ : ByteArray)] rfl (by (try simp only [List.map_toArray, List.map_cons, List.map_nil]); first | done | rfl | (simp only [List.length_drop, List.length_take]; rfl)) ?_; (with_reducible refine (strings_CutPrefix.calls a0 (⟨#[61]⟩ : ByteArray) t352 t353 _ A2.out).mono ?_); rintro e w8 ⟨rfl, hb⟩; refine ⟨_, rfl, ?_⟩; have n_ := impl_ReadNode.K3_ (blk_below (g := gb350) (o := .cells #[.int .i64 0, .int .i64 0, .int .i64 0, .int .i64 0, .int .i64 0] 23 (0, 0)) (by (with_reducible repeat (first | refine blk_drewN ?_ _ | refine blk_drew ?_ | refine blk_alloc ?_ _)); refine blk_far ?_ NB350_351.out _; (with_reducible repeat (first | refine blk_drewN ?_ _ | refine blk_drew ?_ | refine blk_alloc ?_ _)); refine blk_far ?_ NB350_351.out _; (with_reducible repeat (first | refine blk_drewN ?_ _ | refine blk_drew ?_ | refine blk_alloc ?_ _)); refine blk_far ?_ NB350_351.out _; (with_reducible repeat (first | refine blk_drewN ?_ _ | refine blk_drew ?_ | refine blk_alloc ?_ _)); refine blk_far ?_ NB350_351.out _; (with_reducible repeat (first | refine blk_drewN ?_ _ | refine blk_drew ?_ | refine blk_alloc ?_ _)); refine blk_far ?_ NB350_351.out _; (with_reducible repeat (first | refine blk_drewN ?_ _ | refine blk_drew ?_ | refine blk_alloc ?_ _)); exact BK350.out) hb) (blk_below (g := gb351) (o := .cells #[.int .i64 (-1), .int .i64 0, .int .i64 0, .int .i64 0, .int .i64 0] 23 (0, 0)) (by (with_reducible repeat (first | refine blk_drewN ?_ _ | refine blk_drew ?_ | refine blk_alloc ?_ _)); refine blk_put (cs := #[.int .i64 (-1), .int .i64 0, .int .i64 0, .int .i64 0, .int .i64 0]) ?_ 4 _ rfl; (with_reducible repeat (first | refine blk_drewN ?_ _ | refine blk_drew ?_ | refine blk_alloc ?_ _)); refine blk_put (cs := #[.int .i64 (-1), .int .i64 0, .int .i64 0, .int .i64 0, .int .i64 0]) ?_ 3 _ rfl; (with_reducible repeat (first | refine blk_drewN ?_ _ | refine blk_drew ?_ | refine blk_alloc ?_ _)); refine blk_put (cs := #[.int .i64 (-1), .int .i64 0, .int .i64 0, .int .i64 0, .int .i64 0]) ?_ 2 _ rfl; (with_reducible repeat (first | refine blk_drewN ?_ _ | refine blk_drew ?_ | refine blk_alloc ?_ _)); refine blk_put (cs := #[.int .i64 (-1), .int .i64 0, .int .i64 0, .int .i64 0, .int .i64 0]) ?_ 1 _ rfl; (with_reducible repeat (first | refine blk_drewN ?_ _ | refine blk_drew ?_ | refine blk_alloc ?_ _)); refine blk_put (cs := #[.int .i64 0, .int .i64 0, .int .i64 0, .int .i64 0, .int .i64 0]) ?_ 0 _ rfl; (with_reducible repeat (first | refine blk_drewN ?_ _ | refine blk_drew ?_ | refine blk_alloc ?_ _)); exact BK351.out) hb) (below_step (by repeat (first | (with_reducible first | exact HB.out | apply below_alloc | apply pw_below_drewN | apply below_drew1 | refine below_set ?_ GE350.out | refine below_set ?_ GE351.out) | exact HB.out)) hb); clear BK350 BK351 HB; obtain ⟨BK350, BK351, HB⟩ := n_; (try clear hb); (try clear hb2); (try clear hk); (try clear hi)))
 (try simp only [Act.put, List.setIfInBounds_toArray, List.set_cons_zero, List.set_cons_succ])
 have H := HZ3.out
 clear HZ3
 by_cases c9 : t353 = true
 case pos =>
  subst c9
  have H1 : ((impl_IntText.f t352).bind fun bt354 => (if a0.toList = ([] : List UInt8) then (some (0, 0, 0, 0, 0, false)) else ((impl_NodeText.f k (-1) 0 0 0 bt354.1).bind fun t356 => (if t356.toList = a0.toList then (some ((-1), 0, 0, 0, bt354.1, true)) else (some (0, 0, 0, 0, 0, false)))))) = some (r1, r2, r3, r4, r5, r6) := by rw [if_pos rfl] at H; exact H
  clear H
  have H := H1
  clear H1
  replace H := Option.bind_eq_some_iff.mp H
  obtain ⟨⟨t354, t355⟩, A100, H⟩ := H
  replace H : (if a0.toList = ([] : List UInt8) then (some (0, 0, 0, 0, 0, false)) else ((impl_NodeText.f k (-1) 0 0 0 t354).bind fun t356 => (if t356.toList = a0.toList then (some ((-1), 0, 0, 0, t354, true)) else (some (0, 0, 0, 0, 0, false))))) = some (r1, r2, r3, r4, r5, r6) := H
  have A10 := Aside0.mk A100
  clear A100
  by_cases c11 : a0.toList = ([] : List UInt8)
  case pos =>
   rw [if_pos c11] at H
   have c11b0 : (a0.toList == ([] : List UInt8)) = true := beq_iff_eq.mpr c11
   have c11b1 : (a0.toList != ([] : List UInt8)) = false := bne_eq_false_iff_eq.mpr c11
   clear c11
   (first | rw [c11b0] | (simp only [i64_w, i32_w]; rw [c11b0]) | skip)
   simp only [Option.some.injEq, Prod.mk.injEq] at H
   obtain ⟨rfl, rfl, rfl, rfl, rfl, rfl⟩ := H
   go_wp2_with (first | ((with_reducible refine gate_callee (f := 44) rfl ?_); refine goesL_ (some 25) rfl rfl Tryd.func44 (by kernel_rfl) rfl #[.string t352] rfl (by (try simp only [List.map_toArray, List.map_cons, List.map_nil]); first | done | rfl | (simp only [List.length_drop, List.length_take]; rfl)) ?_; (with_reducible refine (impl_IntText.calls t352 t354 t355 _ ?side1 A10.out).mono ?_); (case side1 => exact tab_below HT.out (by repeat (first | (with_reducible first | exact HB.out | apply below_alloc | apply pw_below_drewN | apply below_drew1 | refine below_set ?_ GE350.out | refine below_set ?_ GE351.out) | exact HB.out))); rintro e w12 ⟨rfl, hb⟩; refine ⟨_, rfl, ?_⟩; have n_ := impl_ReadNode.K3_ (blk_below (g := gb350) (o := .cells #[.int .i64 0, .int .i64 0, .int .i64 0, .int .i64 0, .int .i64 0] 23 (0, 0)) (by (with_reducible repeat (first | refine blk_drewN ?_ _ | refine blk_drew ?_ | refine blk_alloc ?_ _)); exact BK350.out) hb) (blk_below (g := gb351) (o := .cells #[.int .i64 (-1), .int .i64 0, .int .i64 0, .int .i64 0, .int .i64 0] 23 (0, 0)) (by (with_reducible repeat (first | refine blk_drewN ?_ _ | refine blk_drew ?_ | refine blk_alloc ?_ _)); exact BK351.out) hb) (below_step (by repeat (first | (with_reducible first | exact HB.out | apply below_alloc | apply pw_below_drewN | apply below_drew1 | refine below_set ?_ GE350.out | refine below_set ?_ GE351.out) | exact HB.out)) hb); clear BK350 BK351 HB; obtain ⟨BK350, BK351, HB⟩ := n_; (try clear hb); (try clear hb2); (try clear hk); (try clear hi); have hnb13 := NB351_350.out; have hnc13 := NB350_351.out; have hcz14_0 : w12.cell? ⟨gb351, 0, none⟩ = some (.int .i64 (-1)) := (blk_cell BK351.out 0).trans rfl; have hcz14_1 : w12.cell? ⟨gb351, 1, none⟩ = some (.int .i64 0) := (blk_cell BK351.out 1).trans rfl; have hcz14_2 : w12.cell? ⟨gb351, 2, none⟩ = some (.int .i64 0) := (blk_cell BK351.out 2).trans rfl; have hcz14_3 : w12.cell? ⟨gb351, 3, none⟩ = some (.int .i64 0) := (blk_cell BK351.out 3).trans rfl; have hcz14_4 : w12.cell? ⟨gb351, 4, none⟩ = some (.int .i64 0) := (blk_cell BK351.out 4).trans rfl; have hfz14_0 := blk_frozen BK351.out 0; have hfz14_1 := blk_frozen BK351.out 1; have hfz14_2 := blk_frozen BK351.out 2; have hfz14_3 := blk_frozen BK351.out 3; have hfz14_4 := blk_frozen BK351.out 4; have hcz15_0 : w12.cell? ⟨gb350, 0, none⟩ = some (.int .i64 0) := (blk_cell BK350.out 0).trans rfl; have hcz15_1 : w12.cell? ⟨gb350, 1, none⟩ = some (.int .i64 0) := (blk_cell BK350.out 1).trans rfl; have hcz15_2 : w12.cell? ⟨gb350, 2, none⟩ = some (.int .i64 0) := (blk_cell BK350.out 2).trans rfl; have hcz15_3 : w12.cell? ⟨gb350, 3, none⟩ = some (.int .i64 0) := (blk_cell BK350.out 3).trans rfl; have hcz15_4 : w12.cell? ⟨gb350, 4, none⟩ = some (.int .i64 0) := (blk_cell BK350.out 4).trans rfl; have hfz15_0 := blk_frozen BK350.out 0; have hfz15_1 := blk_frozen BK350.out 1; have hfz15_2 := blk_frozen BK350.out 2; have hfz15_3 := blk_frozen BK350.out 3; have hfz15_4 := blk_frozen BK350.out 4))
   refine bodyPost_ret (results_ct rfl _ _ gb350 23 #[.int .i64 0, .int .i64 0, .int .i64 0, .int .i64 0, .int .i64 0] (0, 0) _ rfl (by (with_reducible repeat (first | refine blk_drewN ?_ _ | refine blk_drew ?_ | refine blk_alloc ?_ _)); refine blk_put (cs := #[.int .i64 0, .int .i64 0, .int .i64 0, .int .i64 0, .int .i64 0]) ?_ 4 _ rfl; (with_reducible repeat (first | refine blk_drewN ?_ _ | refine blk_drew ?_ | refine blk_alloc ?_ _)); refine blk_put (cs := #[.int .i64 0, .int .i64 0, .int .i64 0, .int .i64 0, .int .i64 0]) ?_ 3 _ rfl; (with_reducible repeat (first | refine blk_drewN ?_ _ | refine blk_drew ?_ | refine blk_alloc ?_ _)); refine blk_put (cs := #[.int .i64 0, .int .i64 0, .int .i64 0, .int .i64 0, .int .i64 0]) ?_ 2 _ rfl; (with_reducible repeat (first | refine blk_drewN ?_ _ | refine blk_drew ?_ | refine blk_alloc ?_ _)); refine blk_put (cs := #[.int .i64 0, .int .i64 0, .int .i64 0, .int .i64 0, .int .i64 0]) ?_ 1 _ rfl; (with_reducible repeat (first | refine blk_drewN ?_ _ | refine blk_drew ?_ | refine blk_alloc ?_ _)); refine blk_put (cs := #[.int .i64 0, .int .i64 0, .int .i64 0, .int .i64 0, .int .i64 0]) ?_ 0 _ rfl; (with_reducible repeat (first | refine blk_drewN ?_ _ | refine blk_drew ?_ | refine blk_alloc ?_ _)); refine blk_far ?_ NB350_351.out _; (with_reducible repeat (first | refine blk_drewN ?_ _ | refine blk_drew ?_ | refine blk_alloc ?_ _)); exact BK350.out) Tryd.underlying23 rfl (by kernel_rfl)) rfl ?_
   exact ⟨by first | rfl | (simp [errW_none, errW_some] <;> rfl) | (simp [*, errW_none, errW_some] <;> rfl), by repeat (first | (with_reducible first | exact HB.out | apply below_alloc | apply pw_below_drewN | apply below_drew1 | refine below_set ?_ GE350.out | refine below_set ?_ GE351.out) | exact HB.out)⟩
  rw [if_neg c11] at H
  have c11b0 : (a0.toList == ([] : List UInt8)) = false := beq_eq_false_iff_ne.mpr c11
  have c11b1 : (a0.toList != ([] : List UInt8)) = true := bne_iff_ne.mpr c11
  (first | rw [c11b0] | (simp only [i64_w, i32_w]; rw [c11b0]) | skip)
  replace H := Option.bind_eq_some_iff.mp H
  obtain ⟨t356, A160, H⟩ := H
  replace H : (if t356.toList = a0.toList then (some ((-1), 0, 0, 0, t354, true)) else (some (0, 0, 0, 0, 0, false))) = some (r1, r2, r3, r4, r5, r6) := H
  have A16 := Aside0.mk A160
  clear A160
  have HZ17 := Aside0.mk H
  clear H
  go_upto_if 78 with (first | ((with_reducible refine gate_callee (f := 44) rfl ?_); refine goesL_ (some 25) rfl rfl Tryd.func44 (by kernel_rfl) rfl #[.string t352] rfl (by (try simp only [List.map_toArray, List.map_cons, List.map_nil]); first | done | rfl | (simp only [List.length_drop, List.length_take]; rfl)) ?_; (with_reducible refine (impl_IntText.calls t352 t354 t355 _ ?side1 A10.out).mono ?_); (case side1 => exact tab_below HT.out (by repeat (first | (with_reducible first | exact HB.out | apply below_alloc | apply pw_below_drewN | apply below_drew1 | refine below_set ?_ GE350.out | refine below_set ?_ GE351.out) | exact HB.out))); rintro e w18 ⟨rfl, hb⟩; refine ⟨_, rfl, ?_⟩; have n_ := impl_ReadNode.K3_ (blk_below (g := gb350) (o := .cells #[.int .i64 0, .int .i64 0, .int .i64 0, .int .i64 0, .int .i64 0] 23 (0, 0)) (by (with_reducible repeat (first | refine blk_drewN ?_ _ | refine blk_drew ?_ | refine blk_alloc ?_ _)); exact BK350.out) hb) (blk_below (g := gb351) (o := .cells #[.int .i64 (-1), .int .i64 0, .int .i64 0, .int .i64 0, .int .i64 0] 23 (0, 0)) (by (with_reducible repeat (first | refine blk_drewN ?_ _ | refine blk_drew ?_ | refine blk_alloc ?_ _)); exact BK351.out) hb) (below_step (by repeat (first | (with_reducible first | exact HB.out | apply below_alloc | apply pw_below_drewN | apply below_drew1 | refine below_set ?_ GE350.out | refine below_set ?_ GE351.out) | exact HB.out)) hb); clear BK350 BK351 HB; obtain ⟨BK350, BK351, HB⟩ := n_; (try clear hb); (try clear hb2); (try clear hk); (try clear hi); have hnb19 := NB351_350.out; have hnc19 := NB350_351.out; have hcz20_0 : w18.cell? ⟨gb351, 0, none⟩ = some (.int .i64 (-1)) := (blk_cell BK351.out 0).trans rfl; have hcz20_1 : w18.cell? ⟨gb351, 1, none⟩ = some (.int .i64 0) := (blk_cell BK351.out 1).trans rfl; have hcz20_2 : w18.cell? ⟨gb351, 2, none⟩ = some (.int .i64 0) := (blk_cell BK351.out 2).trans rfl; have hcz20_3 : w18.cell? ⟨gb351, 3, none⟩ = some (.int .i64 0) := (blk_cell BK351.out 3).trans rfl; have hcz20_4 : w18.cell? ⟨gb351, 4, none⟩ = some (.int .i64 0) := (blk_cell BK351.out 4).trans rfl; have hfz20_0 := blk_frozen BK351.out 0; have hfz20_1 := blk_frozen BK351.out 1; have hfz20_2 := blk_frozen BK351.out 2; have hfz20_3 := blk_frozen BK351.out 3; have hfz20_4 := blk_frozen BK351.out 4) | (go_at_call 19; (with_reducible refine (impl_NodeText.calls k (-1) 0 0 0 t354 t356 _ ?side1 A16.out).mono ?_); (case side1 => exact tab_below HT.out (by repeat (first | (with_reducible first | exact HB.out | apply below_alloc | apply pw_below_drewN | apply below_drew1 | refine below_set ?_ GE350.out | refine below_set ?_ GE351.out) | exact HB.out))); rintro e w21 ⟨rfl, hb⟩; have n_ := impl_ReadNode.K3_ (blk_below (g := gb350) (o := .cells #[.int .i64 0, .int .i64 0, .int .i64 0, .int .i64 0, .int .i64 0] 23 (0, 0)) (by (with_reducible repeat (first | refine blk_drewN ?_ _ | refine blk_drew ?_ | refine blk_alloc ?_ _)); refine blk_far ?_ NB350_351.out _; (with_reducible repeat (first | refine blk_drewN ?_ _ | refine blk_drew ?_ | refine blk_alloc ?_ _)); exact BK350.out) hb) (blk_below (g := gb351) (o := .cells #[.int .i64 (-1), .int .i64 0, .int .i64 0, .int .i64 0, .int .i64 t354] 23 (0, 0)) (by (with_reducible repeat (first | refine blk_drewN ?_ _ | refine blk_drew ?_ | refine blk_alloc ?_ _)); refine blk_put (cs := #[.int .i64 (-1), .int .i64 0, .int .i64 0, .int .i64 0, .int .i64 0]) ?_ 4 _ rfl; (with_reducible repeat (first | refine blk_drewN ?_ _ | refine blk_drew ?_ | refine blk_alloc ?_ _)); exact BK351.out) hb) (below_step (by repeat (first | (with_reducible first | exact HB.out | apply below_alloc | apply pw_below_drewN | apply below_drew1 | refine below_set ?_ GE350.out | refine below_set ?_ GE351.out) | exact HB.out)) hb); clear BK350 BK351 HB; obtain ⟨BK350, BK351, HB⟩ := n_; (try clear hb); (try clear hb2); (try clear hk); (try clear hi)))
  (try simp only [Act.put, List.setIfInBounds_toArray, List.set_cons_zero, List.set_cons_succ])
  have H := HZ17.out
  clear HZ17
  by_cases c22 : t356.toList = a0.toList
  case neg =>
   rw [if_neg c22] at H
   have c22b0 : (t356.toList == a0.toList) = false := beq_eq_false_iff_ne.mpr c22
   have c22b1 : (t356.toList != a0.toList) = true := bne_iff_ne.mpr c22
   (first | rw [c22b0] | (simp only [i64_w, i32_w]; rw [c22b0]) | skip)
   simp only [Option.some.injEq, Prod.mk.injEq] at H
   obtain ⟨rfl, rfl, rfl, rfl, rfl, rfl⟩ := H
   have hnb26 := NB350_351.out
   have hnc26 := NB351_350.out
   have hcz27_0 : w21.cell? ⟨gb350, 0, none⟩ = some (.int .i64 0) := (blk_cell BK350.out 0).trans rfl
   have hcz27_1 : w21.cell? ⟨gb350, 1, none⟩ = some (.int .i64 0) := (blk_cell BK350.out 1).trans rfl
   have hcz27_2 : w21.cell? ⟨gb350, 2, none⟩ = some (.int .i64 0) := (blk_cell BK350.out 2).trans rfl
   have hcz27_3 : w21.cell? ⟨gb350, 3, none⟩ = some (.int .i64 0) := (blk_cell BK350.out 3).trans rfl
   have hcz27_4 : w21.cell? ⟨gb350, 4, none⟩ = some (.int .i64 0) := (blk_cell BK350.out 4).trans rfl
   have hfz27_0 := blk_frozen BK350.out 0
   have hfz27_1 := blk_frozen BK350.out 1
   have hfz27_2 := blk_frozen BK350.out 2
   have hfz27_3 := blk_frozen BK350.out 3
   have hfz27_4 := blk_frozen BK350.out 4
   go_wp2
   refine bodyPost_ret (results_ct rfl _ _ gb350 23 #[.int .i64 0, .int .i64 0, .int .i64 0, .int .i64 0, .int .i64 0] (0, 0) _ rfl (by (with_reducible repeat (first | refine blk_drewN ?_ _ | refine blk_drew ?_ | refine blk_alloc ?_ _)); refine blk_put (cs := #[.int .i64 0, .int .i64 0, .int .i64 0, .int .i64 0, .int .i64 0]) ?_ 4 _ rfl; (with_reducible repeat (first | refine blk_drewN ?_ _ | refine blk_drew ?_ | refine blk_alloc ?_ _)); refine blk_put (cs := #[.int .i64 0, .int .i64 0, .int .i64 0, .int .i64 0, .int .i64 0]) ?_ 3 _ rfl; (with_reducible repeat (first | refine blk_drewN ?_ _ | refine blk_drew ?_ | refine blk_alloc ?_ _)); refine blk_put (cs := #[.int .i64 0, .int .i64 0, .int .i64 0, .int .i64 0, .int .i64 0]) ?_ 2 _ rfl; (with_reducible repeat (first | refine blk_drewN ?_ _ | refine blk_drew ?_ | refine blk_alloc ?_ _)); refine blk_put (cs := #[.int .i64 0, .int .i64 0, .int .i64 0, .int .i64 0, .int .i64 0]) ?_ 1 _ rfl; (with_reducible repeat (first | refine blk_drewN ?_ _ | refine blk_drew ?_ | refine blk_alloc ?_ _)); refine blk_put (cs := #[.int .i64 0, .int .i64 0, .int .i64 0, .int .i64 0, .int .i64 0]) ?_ 0 _ rfl; (with_reducible repeat (first | refine blk_drewN ?_ _ | refine blk_drew ?_ | refine blk_alloc ?_ _)); exact BK350.out) Tryd.underlying23 rfl (by kernel_rfl)) rfl ?_
   exact ⟨by first | rfl | (simp [errW_none, errW_some] <;> rfl) | (simp [*, errW_none, errW_some] <;> rfl), by repeat (first | (with_reducible first | exact HB.out | apply below_alloc | apply pw_below_drewN | apply below_drew1 | refine below_set ?_ GE350.out | refine below_set ?_ GE351.out) | exact HB.out)⟩
  rw [if_pos c22] at H
  have c22b0 : (t356.toList == a0.toList) = true := beq_iff_eq.mpr c22
  have c22b1 : (t356.toList != a0.toList) = false := bne_eq_false_iff_eq.mpr c22
  clear c22
  (first | rw [c22b0] | (simp only [i64_w, i32_w]; rw [c22b0]) | skip)
  simp only [Option.some.injEq, Prod.mk.injEq] at H
  obtain ⟨rfl, rfl, rfl, rfl, rfl, rfl⟩ := H
  have hnb23 := NB351_350.out
  have hnc23 := NB350_351.out
  have hcz24_0 : w21.cell? ⟨gb351, 0, none⟩ = some (.int .i64 (-1)) := (blk_cell BK351.out 0).trans rfl
  have hcz24_1 : w21.cell? ⟨gb351, 1, none⟩ = some (.int .i64 0) := (blk_cell BK351.out 1).trans rfl
  have hcz24_2 : w21.cell? ⟨gb351, 2, none⟩ = some (.int .i64 0) := (blk_cell BK351.out 2).trans rfl
  have hcz24_3 : w21.cell? ⟨gb351, 3, none⟩ = some (.int .i64 0) := (blk_cell BK351.out 3).trans rfl
  have hcz24_4 : w21.cell? ⟨gb351, 4, none⟩ = some (.int .i64 t354) := (blk_cell BK351.out 4).trans rfl
  have hfz24_0 := blk_frozen BK351.out 0
  have hfz24_1 := blk_frozen BK351.out 1
  have hfz24_2 := blk_frozen BK351.out 2
  have hfz24_3 := blk_frozen BK351.out 3
  have hfz24_4 := blk_frozen BK351.out 4
  have hcz25_0 : w21.cell? ⟨gb350, 0, none⟩ = some (.int .i64 0) := (blk_cell BK350.out 0).trans rfl
  have hcz25_1 : w21.cell? ⟨gb350, 1, none⟩ = some (.int .i64 0) := (blk_cell BK350.out 1).trans rfl
  have hcz25_2 : w21.cell? ⟨gb350, 2, none⟩ = some (.int .i64 0) := (blk_cell BK350.out 2).trans rfl
  have hcz25_3 : w21.cell? ⟨gb350, 3, none⟩ = some (.int .i64 0) := (blk_cell BK350.out 3).trans rfl
  have hcz25_4 : w21.cell? ⟨gb350, 4, none⟩ = some (.int .i64 0) := (blk_cell BK350.out 4).trans rfl
  have hfz25_0 := blk_frozen BK350.out 0
  have hfz25_1 := blk_frozen BK350.out 1
  have hfz25_2 := blk_frozen BK350.out 2
  have hfz25_3 := blk_frozen BK350.out 3
  have hfz25_4 := blk_frozen BK350.out 4
  go_wp2
  refine bodyPost_ret (results_ct rfl _ _ gb350 23 #[.int .i64 (-1), .int .i64 0, .int .i64 0, .int .i64 0, .int .i64 t354] (0, 0) _ rfl (by (with_reducible repeat (first | refine blk_drewN ?_ _ | refine blk_drew ?_ | refine blk_alloc ?_ _)); refine blk_put (cs := #[.int .i64 (-1), .int .i64 0, .int .i64 0, .int .i64 0, .int .i64 0]) ?_ 4 _ rfl; (with_reducible repeat (first | refine blk_drewN ?_ _ | refine blk_drew ?_ | refine blk_alloc ?_ _)); refine blk_put (cs := #[.int .i64 (-1), .int .i64 0, .int .i64 0, .int .i64 0, .int .i64 0]) ?_ 3 _ rfl; (with_reducible repeat (first | refine blk_drewN ?_ _ | refine blk_drew ?_ | refine blk_alloc ?_ _)); refine blk_put (cs := #[.int .i64 (-1), .int .i64 0, .int .i64 0, .int .i64 0, .int .i64 0]) ?_ 2 _ rfl; (with_reducible repeat (first | refine blk_drewN ?_ _ | refine blk_drew ?_ | refine blk_alloc ?_ _)); refine blk_put (cs := #[.int .i64 (-1), .int .i64 0, .int .i64 0, .int .i64 0, .int .i64 0]) ?_ 1 _ rfl; (with_reducible repeat (first | refine blk_drewN ?_ _ | refine blk_drew ?_ | refine blk_alloc ?_ _)); refine blk_put (cs := #[.int .i64 0, .int .i64 0, .int .i64 0, .int .i64 0, .int .i64 0]) ?_ 0 _ rfl; (with_reducible repeat (first | refine blk_drewN ?_ _ | refine blk_drew ?_ | refine blk_alloc ?_ _)); exact BK350.out) Tryd.underlying23 rfl (by kernel_rfl)) rfl ?_
  exact ⟨by first | rfl | (simp [errW_none, errW_some] <;> rfl) | (simp [*, errW_none, errW_some] <;> rfl), by repeat (first | (with_reducible first | exact HB.out | apply below_alloc | apply pw_below_drewN | apply below_drew1 | refine below_set ?_ GE350.out | refine below_set ?_ GE351.out) | exact HB.out)⟩
 replace c9 := Bool.eq_false_iff.mpr c9
 subst c9
 have H1 : ((strings_Cut.f a0 (⟨#[60]⟩ : ByteArray)).bind fun bt357 => ((strings_Cut.f bt357.2.1 (⟨#[58]⟩ : ByteArray)).bind fun bt360 => ((strings_Cut.f bt360.2.1 (⟨#[44]⟩ : ByteArray)).bind fun bt363 => ((impl_IntText.f bt357.1).bind fun bt366 => ((impl_IntText.f bt360.1).bind fun bt368 => ((impl_IntText.f bt363.1).bind fun bt370 => ((impl_IntText.f bt363.2.1).bind fun bt372 => (if a0.toList = ([] : List UInt8) then (some (0, 0, 0, 0, 0, false)) else ((impl_NodeText.f k bt366.1 bt368.1 bt370.1 bt372.1 0).bind fun t374 => (if t374.toList = a0.toList then (some (bt366.1, bt368.1, bt370.1, bt372.1, 0, true)) else (some (0, 0, 0, 0, 0, false)))))))))))) = some (r1, r2, r3, r4, r5, r6) := by rw [if_neg (show ¬ (false = true) by decide)] at H; exact H
 clear H
 have H := H1
 clear H1
 replace H := Option.bind_eq_some_iff.mp H
 obtain ⟨⟨t357, t358, t359⟩, A280, H⟩ := H
 replace H : ((strings_Cut.f t358 (⟨#[58]⟩ : ByteArray)).bind fun bt360 => ((strings_Cut.f bt360.2.1 (⟨#[44]⟩ : ByteArray)).bind fun bt363 => ((impl_IntText.f t357).bind fun bt366 => ((impl_IntText.f bt360.1).bind fun bt368 => ((impl_IntText.f bt363.1).bind fun bt370 => ((impl_IntText.f bt363.2.1).bind fun bt372 => (if a0.toList = ([] : List UInt8) then (some (0, 0, 0, 0, 0, false)) else ((impl_NodeText.f k bt366.1 bt368.1 bt370.1 bt372.1 0).bind fun t374 => (if t374.toList = a0.toList then (some (bt366.1, bt368.1, bt370.1, bt372.1, 0, true)) else (some (0, 0, 0, 0, 0, false))))))))))) = some (r1, r2, r3, r4, r5, r6) := H
 have A28 := Aside0.mk A280
 clear A280
 replace H := Option.bind_eq_some_iff.mp H
 obtain ⟨⟨t360, t361, t362⟩, A290, H⟩ := H
 replace H : ((strings_Cut.f t361 (⟨#[44]⟩ : ByteArray)).bind fun bt363 => ((impl_IntText.f t357).bind fun bt366 => ((impl_IntText.f t360).bind fun bt368 => ((impl_IntText.f bt363.1).bind fun bt370 => ((impl_IntText.f bt363.2.1).bind fun bt372 => (if a0.toList = ([] : List UInt8) then (some (0, 0, 0, 0, 0, false)) else ((impl_NodeText.f k bt366.1 bt368.1 bt370.1 bt372.1 0).bind fun t374 => (if t374.toList = a0.toList then (some (bt366.1, bt368.1, bt370.1, bt372.1, 0, true)) else (some (0, 0, 0, 0, 0, false)))))))))) = some (r1, r2, r3, r4, r5, r6) := H
 have A29 := Aside0.mk A290
 clear A290
 replace H := Option.bind_eq_some_iff.mp H
 obtain ⟨⟨t363, t364, t365⟩, A300, H⟩ := H
 replace H : ((impl_IntText.f t357).bind fun bt366 => ((impl_IntText.f t360).bind fun bt368 => ((impl_IntText.f t363).bind fun bt370 => ((impl_IntText.f t364).bind fun bt372 => (if a0.toList = ([] : List UInt8) then (some (0, 0, 0, 0, 0, false)) else ((impl_NodeText.f k bt366.1 bt368.1 bt370.1 bt372.1 0).bind fun t374 => (if t374.toList = a0.toList then (some (bt366.1, bt368.1, bt370.1, bt372.1, 0, true)) else (some (0, 0, 0, 0, 0, false))))))))) = some (r1, r2, r3, r4, r5, r6) := H
 have A30 := Aside0.mk A300
 clear A300
 replace H := Option.bind_eq_some_iff.mp H
 obtain ⟨⟨t366, t367⟩, A310, H⟩ := H
 replace H : ((impl_IntText.f t360).bind fun bt368 => ((impl_IntText.f t363).bind fun bt370 => ((impl_IntText.f t364).bind fun bt372 => (if a0.toList = ([] : List UInt8) then (some (0, 0, 0, 0, 0, false)) else ((impl_NodeText.f k t366 bt368.1 bt370.1 bt372.1 0).bind fun t374 => (if t374.toList = a0.toList then (some (t366, bt368.1, bt370.1, bt372.1, 0, true)) else (some (0, 0, 0, 0, 0, false)))))))) = some (r1, r2, r3, r4, r5, r6) := H
 have A31 := Aside0.mk A310
 clear A310
 replace H := Option.bind_eq_some_iff.mp H
 obtain ⟨⟨t368, t369⟩, A320, H⟩ := H
 replace H : ((impl_IntText.f t363).bind fun bt370 => ((impl_IntText.f t364).bind fun bt372 => (if a0.toList = ([] : List UInt8) then (some (0, 0, 0, 0, 0, false)) else ((impl_NodeText.f k t366 t368 bt370.1 bt372.1 0).bind fun t374 => (if t374.toList = a0.toList then (some (t366, t368, bt370.1, bt372.1, 0, true)) else (some (0, 0, 0, 0, 0, false))))))) = some (r1, r2, r3, r4, r5, r6) := H
 have A32 := Aside0.mk A320
 clear A320
 replace H := Option.bind_eq_some_iff.mp H
 obtain ⟨⟨t370, t371⟩, A330, H⟩ := H
 replace H : ((impl_IntText.f t364).bind fun bt372 => (if a0.toList = ([] : List UInt8) then (some (0, 0, 0, 0, 0, false)) else ((impl_NodeText.f k t366 t368 t370 bt372.1 0).bind fun t374 => (if t374.toList = a0.toList then (some (t366, t368, t370, bt372.1, 0, true)) else (some (0, 0, 0, 0, 0, false)))))) = some (r1, r2, r3, r4, r5, r6) := H
 have A33 := Aside0.mk A330
 clear A330
 replace H := Option.bind_eq_some_iff.mp H
 obtain ⟨⟨t372, t373⟩, A340, H⟩ := H
 replace H : (if a0.toList = ([] : List UInt8) then (some (0, 0, 0, 0, 0, false)) else ((impl_NodeText.f k t366 t368 t370 t372 0).bind fun t374 => (if t374.toList = a0.toList then (some (t366, t368, t370, t372, 0, true)) else (some (0, 0, 0, 0, 0, false))))) = some (r1, r2, r3, r4, r5, r6) := H
 have A34 := Aside0.mk A340
 clear A340
 by_cases c35 : a0.toList = ([] : List UInt8)
 case pos =>
  rw [if_pos c35] at H
  have c35b0 : (a0.toList == ([] : List UInt8)) = true := beq_iff_eq.mpr c35
  have c35b1 : (a0.toList != ([] : List UInt8)) = false := bne_eq_false_iff_eq.mpr c35
  clear c35
  simp only [Option.some.injEq, Prod.mk.injEq] at H
  obtain ⟨rfl, rfl, rfl, rfl, rfl, rfl⟩ := H
  go_wp2_with (first | ((with_reducible refine gate_callee (f := 45) rfl ?_); refine goesL_ (some 31) rfl rfl Tryd.func45 (by kernel_rfl) rfl #[.string a0, .string (⟨#[60]⟩ : ByteArray)] rfl (by (try simp only [List.map_toArray, List.map_cons, List.map_nil]); first | done | rfl | (simp only [List.length_drop, List.length_take]; rfl)) ?_; (with_reducible refine (strings_Cut.calls a0 (⟨#[60]⟩ : ByteArray) t357 t358 t359 _ ?side1 A28.out).mono ?_); (case side1 => exact tab_below HT.out (by repeat (first | (with_reducible first | exact HB.out | apply below_alloc | apply pw_below_drewN | apply below_drew1 | refine below_set ?_ GE350.out | refine below_set ?_ GE351.out) | exact HB.out))); rintro e w36 ⟨rfl, hb⟩; refine ⟨_, rfl, ?_⟩; have n_ := impl_ReadNode.K3_ (blk_below (g := gb350) (o := .cells #[.int .i64 0, .int .i64 0, .int .i64 0, .int .i64 0, .int .i64 0] 23 (0, 0)) (by (with_reducible repeat (first | refine blk_drewN ?_ _ | refine blk_drew ?_ | refine blk_alloc ?_ _)); exact BK350.out) hb) (blk_below (g := gb351) (o := .cells #[.int .i64 (-1), .int .i64 0, .int .i64 0, .int .i64 0, .int .i64 0] 23 (0, 0)) (by (with_reducible repeat (first | refine blk_drewN ?_ _ | refine blk_drew ?_ | refine blk_alloc ?_ _)); exact BK351.out) hb) (below_step (by repeat (first | (with_reducible first | exact HB.out | apply below_alloc | apply pw_below_drewN | apply below_drew1 | refine below_set ?_ GE350.out | refine below_set ?_ GE351.out) | exact HB.out)) hb); clear BK350 BK351 HB; obtain ⟨BK350, BK351, HB⟩ := n_; (try clear hb); (try clear hb2); (try clear hk); (try clear hi)) | ((with_reducible refine gate_callee (f := 45) rfl ?_); refine goesL_ (some 37) rfl rfl Tryd.func45 (by kernel_rfl) rfl #[.string t358, .string (⟨#[58]⟩ : ByteArray)] rfl (by (try simp only [List.map_toArray, List.map_cons, List.map_nil]); first | done | rfl | (simp only [List.length_drop, List.length_take]; rfl)) ?_; (with_reducible refine (strings_Cut.calls t358 (⟨#[58]⟩ : ByteArray) t360 t361 t362 _ ?side1 A29.out).mono ?_); (case side1 => exact tab_below HT.out (by repeat (first | (with_reducible first | exact HB.out | apply below_alloc | apply pw_below_drewN | apply below_drew1 | refine below_set ?_ GE350.out | refine below_set ?_ GE351.out) | exact HB.out))); rintro e w37 ⟨rfl, hb⟩; refine ⟨_, rfl, ?_⟩; have n_ := impl_ReadNode.K3_ (blk_below (g := gb350) (o := .cells #[.int .i64 0, .int .i64 0, .int .i64 0, .int .i64 0, .int .i64 0] 23 (0, 0)) (by (with_reducible repeat (first | refine blk_drewN ?_ _ | refine blk_drew ?_ | refine blk_alloc ?_ _)); exact BK350.out) hb) (blk_below (g := gb351) (o := .cells #[.int .i64 (-1), .int .i64 0, .int .i64 0, .int .i64 0, .int .i64 0] 23 (0, 0)) (by (with_reducible repeat (first | refine blk_drewN ?_ _ | refine blk_drew ?_ | refine blk_alloc ?_ _)); exact BK351.out) hb) (below_step (by repeat (first | (with_reducible first | exact HB.out | apply below_alloc | apply pw_below_drewN | apply below_drew1 | refine below_set ?_ GE350.out | refine below_set ?_ GE351.out) | exact HB.out)) hb); clear BK350 BK351 HB; obtain ⟨BK350, BK351, HB⟩ := n_; (try clear hb); (try clear hb2); (try clear hk); (try clear hi)) | ((with_reducible refine gate_callee (f := 45) rfl ?_); refine goesL_ (some 43) rfl rfl Tryd.func45 (by kernel_rfl) rfl #[.string t361, .string (⟨#[44]⟩ : ByteArray)] rfl (by (try simp only [List.map_toArray, List.map_cons, List.map_nil]); first | done | rfl | (simp only [List.length_drop, List.length_take]; rfl)) ?_; (with_reducible refine (strings_Cut.calls t361 (⟨#[44]⟩ : ByteArray) t363 t364 t365 _ ?side1 A30.out).mono ?_); (case side1 => exact tab_below HT.out (by repeat (first | (with_reducible first | exact HB.out | apply below_alloc | apply pw_below_drewN | apply below_drew1 | refine below_set ?_ GE350.out | refine below_set ?_ GE351.out) | exact HB.out))); rintro e w38 ⟨rfl, hb⟩; refine ⟨_, rfl, ?_⟩; have n_ := impl_ReadNode.K3_ (blk_below (g := gb350) (o := .cells #[.int .i64 0, .int .i64 0, .int .i64 0, .int .i64 0, .int .i64 0] 23 (0, 0)) (by (with_reducible repeat (first | refine blk_drewN ?_ _ | refine blk_drew ?_ | refine blk_alloc ?_ _)); exact BK350.out) hb) (blk_below (g := gb351) (o := .cells #[.int .i64 (-1), .int .i64 0, .int .i64 0, .int .i64 0, .int .i64 0] 23 (0, 0)) (by (with_reducible repeat (first | refine blk_drewN ?_ _ | refine blk_drew ?_ | refine blk_alloc ?_ _)); exact BK351.out) hb) (below_step (by repeat (first | (with_reducible first | exact HB.out | apply below_alloc | apply pw_below_drewN | apply below_drew1 | refine below_set ?_ GE350.out | refine below_set ?_ GE351.out) | exact HB.out)) hb); clear BK350 BK351 HB; obtain ⟨BK350, BK351, HB⟩ := n_; (try clear hb); (try clear hb2); (try clear hk); (try clear hi)) | ((with_reducible refine gate_callee (f := 44) rfl ?_); refine goesL_ (some 49) rfl rfl Tryd.func44 (by kernel_rfl) rfl #[.string t357] rfl (by (try simp only [List.map_toArray, List.map_cons, List.map_nil]); first | done | rfl | (simp only [List.length_drop, List.length_take]; rfl)) ?_; (with_reducible refine (impl_IntText.calls t357 t366 t367 _ ?side1 A31.out).mono ?_); (case side1 => exact tab_below HT.out (by repeat (first | (with_reducible first | exact HB.out | apply below_alloc | apply pw_below_drewN | apply below_drew1 | refine below_set ?_ GE350.out | refine below_set ?_ GE351.out) | exact HB.out))); rintro e w39 ⟨rfl, hb⟩; refine ⟨_, rfl, ?_⟩; have n_ := impl_ReadNode.K3_ (blk_below (g := gb350) (o := .cells #[.int .i64 0, .int .i64 0, .int .i64 0, .int .i64 0, .int .i64 0] 23 (0, 0)) (by (with_reducible repeat (first | refine blk_drewN ?_ _ | refine blk_drew ?_ | refine blk_alloc ?_ _)); exact BK350.out) hb) (blk_below (g := gb351) (o := .cells #[.int .i64 (-1), .int .i64 0, .int .i64 0, .int .i64 0, .int .i64 0] 23 (0, 0)) (by (with_reducible repeat (first | refine blk_drewN ?_ _ | refine blk_drew ?_ | refine blk_alloc ?_ _)); exact BK351.out) hb) (below_step (by repeat (first | (with_reducible first | exact HB.out | apply below_alloc | apply pw_below_drewN | apply below_drew1 | refine below_set ?_ GE350.out | refine below_set ?_ GE351.out) | exact HB.out)) hb); clear BK350 BK351 HB; obtain ⟨BK350, BK351, HB⟩ := n_; (try clear hb); (try clear hb2); (try clear hk); (try clear hi); have hnb40 := NB351_350.out; have hnc40 := NB350_351.out; have hcz41_0 : w39.cell? ⟨gb351, 0, none⟩ = some (.int .i64 (-1)) := (blk_cell BK351.out 0).trans rfl; have hcz41_1 : w39.cell? ⟨gb351, 1, none⟩ = some (.int .i64 0) := (blk_cell BK351.out 1).trans rfl; have hcz41_2 : w39.cell? ⟨gb351, 2, none⟩ = some (.int .i64 0) := (blk_cell BK351.out 2).trans rfl; have hcz41_3 : w39.cell? ⟨gb351, 3, none⟩ = some (.int .i64 0) := (blk_cell BK351.out 3).trans rfl; have hcz41_4 : w39.cell? ⟨gb351, 4, none⟩ = some (.int .i64 0) := (blk_cell BK351.out 4).trans rfl; have hfz41_0 := blk_frozen BK351.out 0; have hfz41_1 := blk_frozen BK351.out 1; have hfz41_2 := blk_frozen BK351.out 2; have hfz41_3 := blk_frozen BK351.out 3; have hfz41_4 := blk_frozen BK351.out 4) | ((with_reducible refine gate_callee (f := 44) rfl ?_); refine goesL_ (some 55) rfl rfl Tryd.func44 (by kernel_rfl) rfl #[.string t360] rfl (by (try simp only [List.map_toArray, List.map_cons, List.map_nil]); first | done | rfl | (simp only [List.length_drop, List.length_take]; rfl)) ?_; (with_reducible refine (impl_IntText.calls t360 t368 t369 _ ?side1 A32.out).mono ?_); (case side1 => exact tab_below HT.out (by repeat (first | (with_reducible first | exact HB.out | apply below_alloc | apply pw_below_drewN | apply below_drew1 | refine below_set ?_ GE350.out | refine below_set ?_ GE351.out) | exact HB.out))); rintro e w42 ⟨rfl, hb⟩; refine ⟨_, rfl, ?_⟩; have n_ := impl_ReadNode.K3_ (blk_below (g := gb350) (o := .cells #[.int .i64 0, .int .i64 0, .int .i64 0, .int .i64 0, .int .i64 0] 23 (0, 0)) (by (with_reducible repeat (first | refine blk_drewN ?_ _ | refine blk_drew ?_ | refine blk_alloc ?_ _)); refine blk_far ?_ NB350_351.out _; (with_reducible repeat (first | refine blk_drewN ?_ _ | refine blk_drew ?_ | refine blk_alloc ?_ _)); exact BK350.out) hb) (blk_below (g := gb351) (o := .cells #[.int .i64 t366, .int .i64 0, .int .i64 0, .int .i64 0, .int .i64 0] 23 (0, 0)) (by (with_reducible repeat (first | refine blk_drewN ?_ _ | refine blk_drew ?_ | refine blk_alloc ?_ _)); refine blk_put (cs := #[.int .i64 (-1), .int .i64 0, .int .i64 0, .int .i64 0, .int .i64 0]) ?_ 0 _ rfl; (with_reducible repeat (first | refine blk_drewN ?_ _ | refine blk_drew ?_ | refine blk_alloc ?_ _)); exact BK351.out) hb) (below_step (by repeat (first | (with_reducible first | exact HB.out | apply below_alloc | apply pw_below_drewN | apply below_drew1 | refine below_set ?_ GE350.out | refine below_set ?_ GE351.out) | exact HB.out)) hb); clear BK350 BK351 HB; obtain ⟨BK350, BK351, HB⟩ := n_; (try clear hb); (try clear hb2); (try clear hk); (try clear hi); have hcz43_0 : w42.cell? ⟨gb351, 0, none⟩ = some (.int .i64 t366) := (blk_cell BK351.out 0).trans rfl; have hcz43_1 : w42.cell? ⟨gb351, 1, none⟩ = some (.int .i64 0) := (blk_cell BK351.out 1).trans rfl; have hcz43_2 : w42.cell? ⟨gb351, 2, none⟩ = some (.int .i64 0) := (blk_cell BK351.out 2).trans rfl; have hcz43_3 : w42.cell? ⟨gb351, 3, none⟩ = some (.int .i64 0) := (blk_cell BK351.out 3).trans rfl; have hcz43_4 : w42.cell? ⟨gb351, 4, none⟩ = some (.int .i64 0) := (blk_cell BK351.out 4).trans rfl; have hfz43_0 := blk_frozen BK351.out 0; have hfz43_1 := blk_frozen BK351.out 1; have hfz43_2 := blk_frozen BK351.out 2; have hfz43_3 := blk_frozen BK351.out 3; have hfz43_4 := blk_frozen BK351.out 4) | ((with_reducible refine gate_callee (f := 44) rfl ?_); refine goesL_ (some 61) rfl rfl Tryd.func44 (by kernel_rfl) rfl #[.string t363] rfl (by (try simp only [List.map_toArray, List.map_cons, List.map_nil]); first | done | rfl | (simp only [List.length_drop, List.length_take]; rfl)) ?_; (with_reducible refine (impl_IntText.calls t363 t370 t371 _ ?side1 A33.out).mono ?_); (case side1 => exact tab_below HT.out (by repeat (first | (with_reducible first | exact HB.out | apply below_alloc | apply pw_below_drewN | apply below_drew1 | refine below_set ?_ GE350.out | refine below_set ?_ GE351.out) | exact HB.out))); rintro e w44 ⟨rfl, hb⟩; refine ⟨_, rfl, ?_⟩; have n_ := impl_ReadNode.K3_ (blk_below (g := gb350) (o := .cells #[.int .i64 0, .int .i64 0, .int .i64 0, .int .i64 0, .int .i64 0] 23 (0, 0)) (by (with_reducible repeat (first | refine blk_drewN ?_ _ | refine blk_drew ?_ | refine blk_alloc ?_ _)); refine blk_far ?_ NB350_351.out _; (with_reducible repeat (first | refine blk_drewN ?_ _ | refine blk_drew ?_ | refine blk_alloc ?_ _)); exact BK350.out) hb) (blk_below (g := gb351) (o := .cells #[.int .i64 t366, .int .i64 t368, .int .i64 0, .int .i64 0, .int .i64 0] 23 (0, 0)) (by (with_reducible repeat (first | refine blk_drewN ?_ _ | refine blk_drew ?_ | refine blk_alloc ?_ _)); refine blk_put (cs := #[.int .i64 t366, .int .i64 0, .int .i64 0, .int .i64 0, .int .i64 0]) ?_ 1 _ rfl; (with_reducible repeat (first | refine blk_drewN ?_ _ | refine blk_drew ?_ | refine blk_alloc ?_ _)); exact BK351.out) hb) (below_step (by repeat (first | (with_reducible first | exact HB.out | apply below_alloc | apply pw_below_drewN | apply below_drew1 | refine below_set ?_ GE350.out | refine below_set ?_ GE351.out) | exact HB.out)) hb); clear BK350 BK351 HB; obtain ⟨BK350, BK351, HB⟩ := n_; (try clear hb); (try clear hb2); (try clear hk); (try clear hi); have hcz45_0 : w44.cell? ⟨gb351, 0, none⟩ = some (.int .i64 t366) := (blk_cell BK351.out 0).trans rfl; have hcz45_1 : w44.cell? ⟨gb351, 1, none⟩ = some (.int .i64 t368) := (blk_cell BK351.out 1).trans rfl; have hcz45_2 : w44.cell? ⟨gb351, 2, none⟩ = some (.int .i64 0) := (blk_cell BK351.out 2).trans rfl; have hcz45_3 : w44.cell? ⟨gb351, 3, none⟩ = some (.int .i64 0) := (blk_cell BK351.out 3).trans rfl; have hcz45_4 : w44.cell? ⟨gb351, 4, none⟩ = some (.int .i64 0) := (blk_cell BK351.out 4).trans rfl; have hfz45_0 := blk_frozen BK351.out 0; have hfz45_1 := blk_frozen BK351.out 1; have hfz45_2 := blk_frozen BK351.out 2; have hfz45_3 := blk_frozen BK351.out 3; have hfz45_4 := blk_frozen BK351.out 4) | ((with_reducible refine gate_callee (f := 44) rfl ?_); refine goesL_ (some 67) rfl rfl Tryd.func44 (by kernel_rfl) rfl #[.string t364] rfl (by (try simp only [List.map_toArray, List.map_cons, List.map_nil]); first | done | rfl | (simp only [List.length_drop, List.length_take]; rfl)) ?_; (with_reducible refine (impl_IntText.calls t364 t372 t373 _ ?side1 A34.out).mono ?_); (case side1 => exact tab_below HT.out (by repeat (first | (with_reducible first | exact HB.out | apply below_alloc | apply pw_below_drewN | apply below_drew1 | refine below_set ?_ GE350.out | refine below_set ?_ GE351.out) | exact HB.out))); rintro e w46 ⟨rfl, hb⟩; refine ⟨_, rfl, ?_⟩; have n_ := impl_ReadNode.K3_ (blk_below (g := gb350) (o := .cells #[.int .i64 0, .int .i64 0, .int .i64 0, .int .i64 0, .int .i64 0] 23 (0, 0)) (by (with_reducible repeat (first | refine blk_drewN ?_ _ | refine blk_drew ?_ | refine blk_alloc ?_ _)); refine blk_far ?_ NB350_351.out _; (with_reducible repeat (first | refine blk_drewN ?_ _ | refine blk_drew ?_ | refine blk_alloc ?_ _)); exact BK350.out) hb) (blk_below (g := gb351) (o := .cells #[.int .i64 t366, .int .i64 t368, .int .i64 t370, .int .i64 0, .int .i64 0] 23 (0, 0)) (by (with_reducible repeat (first | refine blk_drewN ?_ _ | refine blk_drew ?_ | refine blk_alloc ?_ _)); refine blk_put (cs := #[.int .i64 t366, .int .i64 t368, .int .i64 0, .int .i64 0, .int .i64 0]) ?_ 2 _ rfl; (with_reducible repeat (first | refine blk_drewN ?_ _ | refine blk_drew ?_ | refine blk_alloc ?_ _)); exact BK351.out) hb) (below_step (by repeat (first | (with_reducible first | exact HB.out | apply below_alloc | apply pw_below_drewN | apply below_drew1 | refine below_set ?_ GE350.out | refine below_set ?_ GE351.out) | exact HB.out)) hb); clear BK350 BK351 HB; obtain ⟨BK350, BK351, HB⟩ := n_; (try clear hb); (try clear hb2); (try clear hk); (try clear hi); have hcz47_0 : w46.cell? ⟨gb351, 0, none⟩ = some (.int .i64 t366) := (blk_cell BK351.out 0).trans rfl; have hcz47_1 : w46.cell? ⟨gb351, 1, none⟩ = some (.int .i64 t368) := (blk_cell BK351.out 1).trans rfl; have hcz47_2 : w46.cell? ⟨gb351, 2, none⟩ = some (.int .i64 t370) := (blk_cell BK351.out 2).trans rfl; have hcz47_3 : w46.cell? ⟨gb351, 3, none⟩ = some (.int .i64 0) := (blk_cell BK351.out 3).trans rfl; have hcz47_4 : w46.cell? ⟨gb351, 4, none⟩ = some (.int .i64 0) := (blk_cell BK351.out 4).trans rfl; have hfz47_0 := blk_frozen BK351.out 0; have hfz47_1 := blk_frozen BK351.out 1; have hfz47_2 := blk_frozen BK351.out 2; have hfz47_3 := blk_frozen BK351.out 3; have hfz47_4 := blk_frozen BK351.out 4; have hcz48_0 : w46.cell? ⟨gb350, 0, none⟩ = some (.int .i64 0) := (blk_cell BK350.out 0).trans rfl; have hcz48_1 : w46.cell? ⟨gb350, 1, none⟩ = some (.int .i64 0) := (blk_cell BK350.out 1).trans rfl; have hcz48_2 : w46.cell? ⟨gb350, 2, none⟩ = some (.int .i64 0) := (blk_cell BK350.out 2).trans rfl; have hcz48_3 : w46.cell? ⟨gb350, 3, none⟩ = some (.int .i64 0) := (blk_cell BK350.out 3).trans rfl; have hcz48_4 : w46.cell? ⟨gb350, 4, none⟩ = some (.int .i64 0) := (blk_cell BK350.out 4).trans rfl; have hfz48_0 := blk_frozen BK350.out 0; have hfz48_1 := blk_frozen BK350.out 1; have hfz48_2 := blk_frozen BK350.out 2; have hfz48_3 := blk_frozen BK350.out 3; have hfz48_4 := blk_frozen BK350.out 4))
  refine bodyPost_ret (results_ct rfl _ _ gb350 23 #[.int .i64 0, .int .i64 0, .int .i64 0, .int .i64 0, .int .i64 0] (0, 0) _ rfl (by (with_reducible repeat (first | refine blk_drewN ?_ _ | refine blk_drew ?_ | refine blk_alloc ?_ _)); refine blk_put (cs := #[.int .i64 0, .int .i64 0, .int .i64 0, .int .i64 0, .int .i64 0]) ?_ 4 _ rfl; (with_reducible repeat (first | refine blk_drewN ?_ _ | refine blk_drew ?_ | refine blk_alloc ?_ _)); refine blk_put (cs := #[.int .i64 0, .int .i64 0, .int .i64 0, .int .i64 0, .int .i64 0]) ?_ 3 _ rfl; (with_reducible repeat (first | refine blk_drewN ?_ _ | refine blk_drew ?_ | refine blk_alloc ?_ _)); refine blk_put (cs := #[.int .i64 0, .int .i64 0, .int .i64 0, .int .i64 0, .int .i64 0]) ?_ 2 _ rfl; (with_reducible repeat (first | refine blk_drewN ?_ _ | refine blk_drew ?_ | refine blk_alloc ?_ _)); refine blk_put (cs := #[.int .i64 0, .int .i64 0, .int .i64 0, .int .i64 0, .int .i64 0]) ?_ 1 _ rfl; (with_reducible repeat (first | refine blk_drewN ?_ _ | refine blk_drew ?_ | refine blk_alloc ?_ _)); refine blk_put (cs := #[.int .i64 0, .int .i64 0, .int .i64 0, .int .i64 0, .int .i64 0]) ?_ 0 _ rfl; (with_reducible repeat (first | refine blk_drewN ?_ _ | refine blk_drew ?_ | refine blk_alloc ?_ _)); refine blk_far ?_ NB350_351.out _; (with_reducible repeat (first | refine blk_drewN ?_ _ | refine blk_drew ?_ | refine blk_alloc ?_ _)); exact BK350.out) Tryd.underlying23 rfl (by kernel_rfl)) rfl ?_
  exact ⟨by first | rfl | (simp [errW_none, errW_some] <;> rfl) | (simp [*, errW_none, errW_some] <;> rfl), by repeat (first | (with_reducible first | exact HB.out | apply below_alloc | apply pw_below_drewN | apply below_drew1 | refine below_set ?_ GE350.out | refine below_set ?_ GE351.out) | exact HB.out)⟩
 rw [if_neg c35] at H
 have c35b0 : (a0.toList == ([] : List UInt8)) = false := beq_eq_false_iff_ne.mpr c35
 have c35b1 : (a0.toList != ([] : List UInt8)) = true := bne_iff_ne.mpr c35
 replace H := Option.bind_eq_some_iff.mp H
 obtain ⟨t374, A490, H⟩ := H
 replace H : (if t374.toList = a0.toList then (some (t366, t368, t370, t372, 0, true)) else (some (0, 0, 0, 0, 0, false))) = some (r1, r2, r3, r4, r5, r6) := H
 have A49 := Aside0.mk A490
 clear A490
 have HZ50 := Aside0.mk H
 clear H
 go_upto_if 78 with (first | ((with_reducible refine gate_callee (f := 45) rfl ?_); refine goesL_ (some 31) rfl rfl Tryd.func45 (by kernel_rfl) rfl #[.string a0, .string (⟨#[60]⟩ : ByteArray)] rfl (by (try simp only [List.map_toArray, List.map_cons, List.map_nil]); first | done | rfl | (simp only [List.length_drop, List.length_take]; rfl)) ?_; (with_reducible refine (strings_Cut.calls a0 (⟨#[60]⟩ : ByteArray) t357 t358 t359 _ ?side1 A28.out).mono ?_); (case side1 => exact tab_below HT.out (by repeat (first | (with_reducible first | exact HB.out | apply below_alloc | apply pw_below_drewN | apply below_drew1 | refine below_set ?_ GE350.out | refine below_set ?_ GE351.out) | exact HB.out))); rintro e w51 ⟨rfl, hb⟩; refine ⟨_, rfl, ?_⟩; have n_ := impl_ReadNode.K3_ (blk_below (g := gb350) (o := .cells #[.int .i64 0, .int .i64 0, .int .i64 0, .int .i64 0, .int .i64 0] 23 (0, 0)) (by (with_reducible repeat (first | refine blk_drewN ?_ _ | refine blk_drew ?_ | refine blk_alloc ?_ _)); exact BK350.out) hb) (blk_below (g := gb351) (o := .cells #[.int .i64 (-1), .int .i64 0, .int .i64 0, .int .i64 0, .int .i64 0] 23 (0, 0)) (by (with_reducible repeat (first | refine blk_drewN ?_ _ | refine blk_drew ?_ | refine blk_alloc ?_ _)); exact BK351.out) hb) (below_step (by repeat (first | (with_reducible first | exact HB.out | apply below_alloc | apply pw_below_drewN | apply below_drew1 | refine below_set ?_ GE350.out | refine below_set ?_ GE351.out) | exact HB.out)) hb); clear BK350 BK351 HB; obtain ⟨BK350, BK351, HB⟩ := n_; (try clear hb); (try clear hb2); (try clear hk); (try clear hi)) | ((with_reducible refine gate_callee (f := 45) rfl ?_); refine goesL_ (some 37) rfl rfl Tryd.func45 (by kernel_rfl) rfl #[.string t358, .string (⟨#[58]⟩ : ByteArray)] rfl (by (try simp only [List.map_toArray, List.map_cons, List.map_nil]); first | done | rfl | (simp only [List.length_drop, List.length_take]; rfl)) ?_; (with_reducible refine (strings_Cut.calls t358 (⟨#[58]⟩ : ByteArray) t360 t361 t362 _ ?side1 A29.out).mono ?_); (case side1 => exact tab_below HT.out (by repeat (first | (with_reducible first | exact HB.out | apply below_alloc | apply pw_below_drewN | apply below_drew1 | refine below_set ?_ GE350.out | refine below_set ?_ GE351.out) | exact HB.out))); rintro e w52 ⟨rfl, hb⟩; refine ⟨_, rfl, ?_⟩; have n_ := impl_ReadNode.K3_ (blk_below (g := gb350) (o := .cells #[.int .i64 0, .int .i64 0, .int .i64 0, .int .i64 0, .int .i64 0] 23 (0, 0)) (by (with_reducible repeat (first | refine blk_drewN ?_ _ | refine blk_drew ?_ | refine blk_alloc ?_ _)); exact BK350.out) hb) (blk_below (g := gb351) (o := .cells #[.int .i64 (-1), .int .i64 0, .int .i64 0, .int .i64 0, .int .i64 0] 23 (0, 0)) (by (with_reducible repeat (first | refine blk_drewN ?_ _ | refine blk_drew ?_ | refine blk_alloc ?_ _)); exact BK351.out) hb) (below_step (by repeat (first | (with_reducible first | exact HB.out | apply below_alloc | apply pw_below_drewN | apply below_drew1 | refine below_set ?_ GE350.out | refine below_set ?_ GE351.out) | exact HB.out)) hb); clear BK350 BK351 HB; obtain ⟨BK350, BK351, HB⟩ := n_; (try clear hb); (try clear hb2); (try clear hk); (try clear hi)) | ((with_reducible refine gate_callee (f := 45) rfl ?_); refine goesL_ (some 43) rfl rfl Tryd.func45 (by kernel_rfl) rfl #[.string t361, .string (⟨#[44]⟩ : ByteArray)] rfl (by (try simp only [List.map_toArray, List.map_cons, List.map_nil]); first | done | rfl | (simp only [List.length_drop, List.length_take]; rfl)) ?_; (with_reducible refine (strings_Cut.calls t361 (⟨#[44]⟩ : ByteArray) t363 t364 t365 _ ?side1 A30.out).mono ?_); (case side1 => exact tab_below HT.out (by repeat (first | (with_reducible first | exact HB.out | apply below_alloc | apply pw_below_drewN | apply below_drew1 | refine below_set ?_ GE350.out | refine below_set ?_ GE351.out) | exact HB.out))); rintro e w53 ⟨rfl, hb⟩; refine ⟨_, rfl, ?_⟩; have n_ := impl_ReadNode.K3_ (blk_below (g := gb350) (o := .cells #[.int .i64 0, .int .i64 0, .int .i64 0, .int .i64 0, .int .i64 0] 23 (0, 0)) (by (with_reducible repeat (first | refine blk_drewN ?_ _ | refine blk_drew ?_ | refine blk_alloc ?_ _)); exact BK350.out) hb) (blk_below (g := gb351) (o := .cells #[.int .i64 (-1), .int .i64 0, .int .i64 0, .int .i64 0, .int .i64 0] 23 (0, 0)) (by (with_reducible repeat (first | refine blk_drewN ?_ _ | refine blk_drew ?_ | refine blk_alloc ?_ _)); exact BK351.out) hb) (below_step (by repeat (first | (with_reducible first | exact HB.out | apply below_alloc | apply pw_below_drewN | apply below_drew1 | refine below_set ?_ GE350.out | refine below_set ?_ GE351.out) | exact HB.out)) hb); clear BK350 BK351 HB; obtain ⟨BK350, BK351, HB⟩ := n_; (try clear hb); (try clear hb2); (try clear hk); (try clear hi)) | ((with_reducible refine gate_callee (f := 44) rfl ?_); refine goesL_ (some 49) rfl rfl Tryd.func44 (by kernel_rfl) rfl #[.string t357] rfl (by (try simp only [List.map_toArray, List.map_cons, List.map_nil]); first | done | rfl | (simp only [List.length_drop, List.length_take]; rfl)) ?_; (with_reducible refine (impl_IntText.calls t357 t366 t367 _ ?side1 A31.out).mono ?_); (case side1 => exact tab_below HT.out (by repeat (first | (with_reducible first | exact HB.out | apply below_alloc | apply pw_below_drewN | apply below_drew1 | refine below_set ?_ GE350.out | refine below_set ?_ GE351.out) | exact HB.out))); rintro e w54 ⟨rfl, hb⟩; refine ⟨_, rfl, ?_⟩; have n_ := impl_ReadNode.K3_ (blk_below (g := gb350) (o := .cells #[.int .i64 0, .int .i64 0, .int .i64 0, .int .i64 0, .int .i64 0] 23 (0, 0)) (by (with_reducible repeat (first | refine blk_drewN ?_ _ | refine blk_drew ?_ | refine blk_alloc ?_ _)); exact BK350.out) hb) (blk_below (g := gb351) (o := .cells #[.int .i64 (-1), .int .i64 0, .int .i64 0, .int .i64 0, .int .i64 0] 23 (0, 0)) (by (with_reducible repeat (first | refine blk_drewN ?_ _ | refine blk_drew ?_ | refine blk_alloc ?_ _)); exact BK351.out) hb) (below_step (by repeat (first | (with_reducible first | exact HB.out | apply below_alloc | apply pw_below_drewN | apply below_drew1 | refine below_set ?_ GE350.out | refine below_set ?_ GE351.out) | exact HB.out)) hb); clear BK350 BK351 HB; obtain ⟨BK350, BK351, HB⟩ := n_; (try clear hb); (try clear hb2); (try clear hk); (try clear hi); have hnb55 := NB351_350.out; have hnc55 := NB350_351.out; have hcz56_0 : w54.cell? ⟨gb351, 0, none⟩ = some (.int .i64 (-1)) := (blk_cell BK351.out 0).trans rfl; have hcz56_1 : w54.cell? ⟨gb351, 1, none⟩ = some (.int .i64 0) := (blk_cell BK351.out 1).trans rfl; have hcz56_2 : w54.cell? ⟨gb351, 2, none⟩ = some (.int .i64 0) := (blk_cell BK351.out 2).trans rfl; have hcz56_3 : w54.cell? ⟨gb351, 3, none⟩ = some (.int .i64 0) := (blk_cell BK351.out 3).trans rfl; have hcz56_4 : w54.cell? ⟨gb351, 4, none⟩ = some (.int .i64 0) := (blk_cell BK351.out 4).trans rfl; have hfz56_0 := blk_frozen BK351.out 0; have hfz56_1 := blk_frozen BK351.out 1; have hfz56_2 := blk_frozen BK351.out 2; have hfz56_3 := blk_frozen BK351.out 3; have hfz56_4 := blk_frozen BK351.out 4) | ((with_reducible refine gate_callee (f := 44) rfl ?_); refine goesL_ (some 55) rfl rfl Tryd.func44 (by kernel_rfl) rfl #[.string t360] rfl (by (try simp only [List.map_toArray, List.map_cons, List.map_nil]); first | done | rfl | (simp only [List.length_drop, List.length_take]; rfl)) ?_; (with_reducible refine (impl_IntText.calls t360 t368 t369 _ ?side1 A32.out).mono ?_); (case side1 => exact tab_below HT.out (by repeat (first | (with_reducible first | exact HB.out | apply below_alloc | apply pw_below_drewN | apply below_drew1 | refine below_set ?_ GE350.out | refine below_set ?_ GE351.out) | exact HB.out))); rintro e w57 ⟨rfl, hb⟩; refine ⟨_, rfl, ?_⟩; have n_ := impl_ReadNode.K3_ (blk_below (g := gb350) (o := .cells #[.int .i64 0, .int .i64 0, .int .i64 0, .int .i64 0, .int .i64 0] 23 (0, 0)) (by (with_reducible repeat (first | refine blk_drewN ?_ _ | refine blk_drew ?_ | refine blk_alloc ?_ _)); refine blk_far ?_ NB350_351.out _; (with_reducible repeat (first | refine blk_drewN ?_ _ | refine blk_drew ?_ | refine blk_alloc ?_ _)); exact BK350.out) hb) (blk_below (g := gb351) (o := .cells #[.int .i64 t366, .int .i64 0, .int .i64 0, .int .i64 0, .int .i64 0] 23 (0, 0)) (by (with_reducible repeat (first | refine blk_drewN ?_ _ | refine blk_drew ?_ | refine blk_alloc ?_ _)); refine blk_put (cs := #[.int .i64 (-1), .int .i64 0, .int .i64 0, .int .i64 0, .int .i64 0]) ?_ 0 _ rfl; (with_reducible repeat (first | refine blk_drewN ?_ _ | refine blk_drew ?_ | refine blk_alloc ?_ _)); exact BK351.out) hb) (below_step (by repeat (first | (with_reducible first | exact HB.out | apply below_alloc | apply pw_below_drewN | apply below_drew1 | refine below_set ?_ GE350.out | refine below_set ?_ GE351.out) | exact HB.out)) hb); clear BK350 BK351 HB; obtain ⟨BK350, BK351, HB⟩ := n_; (try clear hb); (try clear hb2); (try clear hk); (try clear hi); have hcz58_0 : w57.cell? ⟨gb351, 0, none⟩ = some (.int .i64 t366) := (blk_cell BK351.out 0).trans rfl; have hcz58_1 : w57.cell? ⟨gb351, 1, none⟩ = some (.int .i64 0) := (blk_cell BK351.out 1).trans rfl; have hcz58_2 : w57.cell? ⟨gb351, 2, none⟩ = some (.int .i64 0) := (blk_cell BK351.out 2).trans rfl; have hcz58_3 : w57.cell? ⟨gb351, 3, none⟩ = some (.int .i64 0) := (blk_cell BK351.out 3).trans rfl; have hcz58_4 : w57.cell? ⟨gb351, 4, none⟩ = some (.int .i64 0) := (blk_cell BK351.out 4).trans rfl; have hfz58_0 := blk_frozen BK351.out 0; have hfz58_1 := blk_frozen BK351.out 1; have hfz58_2 := blk_frozen BK351.out 2; have hfz58_3 := blk_frozen BK351.out 3; have hfz58_4 := blk_frozen BK351.out 4) | ((with_reducible refine gate_callee (f := 44) rfl ?_); refine goesL_ (some 61) rfl rfl Tryd.func44 (by kernel_rfl) rfl #[.string t363] rfl (by (try simp only [List.map_toArray, List.map_cons, List.map_nil]); first | done | rfl | (simp only [List.length_drop, List.length_take]; rfl)) ?_; (with_reducible refine (impl_IntText.calls t363 t370 t371 _ ?side1 A33.out).mono ?_); (case side1 => exact tab_below HT.out (by repeat (first | (with_reducible first | exact HB.out | apply below_alloc | apply pw_below_drewN | apply below_drew1 | refine below_set ?_ GE350.out | refine below_set ?_ GE351.out) | exact HB.out))); rintro e w59 ⟨rfl, hb⟩; refine ⟨_, rfl, ?_⟩; have n_ := impl_ReadNode.K3_ (blk_below (g := gb350) (o := .cells #[.int .i64 0, .int .i64 0, .int .i64 0, .int .i64 0, .int .i64 0] 23 (0, 0)) (by (with_reducible repeat (first | refine blk_drewN ?_ _ | refine blk_drew ?_ | refine blk_alloc ?_ _)); refine blk_far ?_ NB350_351.out _; (with_reducible repeat (first | refine blk_drewN ?_ _ | refine blk_drew ?_ | refine blk_alloc ?_ _)); exact BK350.out) hb) (blk_below (g := gb351) (o := .cells #[.int .i64 t366, .int .i64 t368, .int .i64 0, .int .i64 0, .int .i64 0] 23 (0, 0)) (by (with_reducible repeat (first | refine blk_drewN ?_ _ | refine blk_drew ?_ | refine blk_alloc ?_ _)); refine blk_put (cs := #[.int .i64 t366, .int .i64 0, .int .i64 0, .int .i64 0, .int .i64 0]) ?_ 1 _ rfl; (with_reducible repeat (first | refine blk_drewN ?_ _ | refine blk_drew ?_ | refine blk_alloc ?_ _)); exact BK351.out) hb) (below_step (by repeat (first | (with_reducible first | exact HB.out | apply below_alloc | apply pw_below_drewN | apply below_drew1 | refine below_set ?_ GE350.out | refine below_set ?_ GE351.out) | exact HB.out)) hb); clear BK350 BK351 HB; obtain ⟨BK350, BK351, HB⟩ := n_; (try clear hb); (try clear hb2); (try clear hk); (try clear hi); have hcz60_0 : w59.cell? ⟨gb351, 0, none⟩ = some (.int .i64 t366) := (blk_cell BK351.out 0).trans rfl; have hcz60_1 : w59.cell? ⟨gb351, 1, none⟩ = some (.int .i64 t368) := (blk_cell BK351.out 1).trans rfl; have hcz60_2 : w59.cell? ⟨gb351, 2, none⟩ = some (.int .i64 0) := (blk_cell BK351.out 2).trans rfl; have hcz60_3 : w59.cell? ⟨gb351, 3, none⟩ = some (.int .i64 0) := (blk_cell BK351.out 3).trans rfl; have hcz60_4 : w59.cell? ⟨gb351, 4, none⟩ = some (.int .i64 0) := (blk_cell BK351.out 4).trans rfl; have hfz60_0 := blk_frozen BK351.out 0; have hfz60_1 := blk_frozen BK351.out 1; have hfz60_2 := blk_frozen BK351.out 2; have hfz60_3 := blk_frozen BK351.out 3; have hfz60_4 := blk_frozen BK351.out 4) | ((with_reducible refine gate_callee (f := 44) rfl ?_); refine goesL_ (some 67) rfl rfl Tryd.func44 (by kernel_rfl) rfl #[.string t364] rfl (by (try simp only [List.map_toArray, List.map_cons, List.map_nil]); first | done | rfl | (simp only [List.length_drop, List.length_take]; rfl)) ?_; (with_reducible refine (impl_IntText.calls t364 t372 t373 _ ?side1 A34.out).mono ?_); (case side1 => exact tab_below HT.out (by repeat (first | (with_reducible first | exact HB.out | apply below_alloc | apply pw_below_drewN | apply below_drew1 | refine below_set ?_ GE350.out | refine below_set ?_ GE351.out) | exact HB.out))); rintro e w61 ⟨rfl, hb⟩; refine ⟨_, rfl, ?_⟩; have n_ := impl_ReadNode.K3_ (blk_below (g := gb350) (o := .cells #[.int .i64 0, .int .i64 0, .int .i64 0, .int .i64 0, .int .i64 0] 23 (0, 0)) (by (with_reducible repeat (first | refine blk_drewN ?_ _ | refine blk_drew ?_ | refine blk_alloc ?_ _)); refine blk_far ?_ NB350_351.out _; (with_reducible repeat (first | refine blk_drewN ?_ _ | refine blk_drew ?_ | refine blk_alloc ?_ _)); exact BK350.out) hb) (blk_below (g := gb351) (o := .cells #[.int .i64 t366, .int .i64 t368, .int .i64 t370, .int .i64 0, .int .i64 0] 23 (0, 0)) (by (with_reducible repeat (first | refine blk_drewN ?_ _ | refine blk_drew ?_ | refine blk_alloc ?_ _)); refine blk_put (cs := #[.int .i64 t366, .int .i64 t368, .int .i64 0, .int .i64 0, .int .i64 0]) ?_ 2 _ rfl; (with_reducible repeat (first | refine blk_drewN ?_ _ | refine blk_drew ?_ | refine blk_alloc ?_ _)); exact BK351.out) hb) (below_step (by repeat (first | (with_reducible first | exact HB.out | apply below_alloc | apply pw_below_drewN | apply below_drew1 | refine below_set ?_ GE350.out | refine below_set ?_ GE351.out) | exact HB.out)) hb); clear BK350 BK351 HB; obtain ⟨BK350, BK351, HB⟩ := n_; (try clear hb); (try clear hb2); (try clear hk); (try clear hi); have hcz62_0 : w61.cell? ⟨gb351, 0, none⟩ = some (.int .i64 t366) := (blk_cell BK351.out 0).trans rfl; have hcz62_1 : w61.cell? ⟨gb351, 1, none⟩ = some (.int .i64 t368) := (blk_cell BK351.out 1).trans rfl; have hcz62_2 : w61.cell? ⟨gb351, 2, none⟩ = some (.int .i64 t370) := (blk_cell BK351.out 2).trans rfl; have hcz62_3 : w61.cell? ⟨gb351, 3, none⟩ = some (.int .i64 0) := (blk_cell BK351.out 3).trans rfl; have hcz62_4 : w61.cell? ⟨gb351, 4, none⟩ = some (.int .i64 0) := (blk_cell BK351.out 4).trans rfl; have hfz62_0 := blk_frozen BK351.out 0; have hfz62_1 := blk_frozen BK351.out 1; have hfz62_2 := blk_frozen BK351.out 2; have hfz62_3 := blk_frozen BK351.out 3; have hfz62_4 := blk_frozen BK351.out 4) | (go_at_call 19; (with_reducible refine (impl_NodeText.calls k t366 t368 t370 t372 0 t374 _ ?side1 A49.out).mono ?_); (case side1 => exact tab_below HT.out (by repeat (first | (with_reducible first | exact HB.out | apply below_alloc | apply pw_below_drewN | apply below_drew1 | refine below_set ?_ GE350.out | refine below_set ?_ GE351.out) | exact HB.out))); rintro e w63 ⟨rfl, hb⟩; have n_ := impl_ReadNode.K3_ (blk_below (g := gb350) (o := .cells #[.int .i64 0, .int .i64 0, .int .i64 0, .int .i64 0, .int .i64 0] 23 (0, 0)) (by (with_reducible repeat (first | refine blk_drewN ?_ _ | refine blk_drew ?_ | refine blk_alloc ?_ _)); refine blk_far ?_ NB350_351.out _; (with_reducible repeat (first | refine blk_drewN ?_ _ | refine blk_drew ?_ | refine blk_alloc ?_ _)); exact BK350.out) hb) (blk_below (g := gb351) (o := .cells #[.int .i64 t366, .int .i64 t368, .int .i64 t370, .int .i64 t372, .int .i64 0] 23 (0, 0)) (by (with_reducible repeat (first | refine blk_drewN ?_ _ | refine blk_drew ?_ | refine blk_alloc ?_ _)); refine blk_put (cs := #[.int .i64 t366, .int .i64 t368, .int .i64 t370, .int .i64 0, .int .i64 0]) ?_ 3 _ rfl; (with_reducible repeat (first | refine blk_drewN ?_ _ | refine blk_drew ?_ | refine blk_alloc ?_ _)); exact BK351.out) hb) (below_step (by repeat (first | (with_reducible first | exact HB.out | apply below_alloc | apply pw_below_drewN | apply below_drew1 | refine below_set ?_ GE350.out | refine below_set ?_ GE351.out) | exact HB.out)) hb); clear BK350 BK351 HB; obtain ⟨BK350, BK351, HB⟩ := n_; (try clear hb); (try clear hb2); (try clear hk); (try clear hi)))
 (try simp only [Act.put, List.setIfInBounds_toArray, List.set_cons_zero, List.set_cons_succ])
 have H := HZ50.out
 clear HZ50
 by_cases c64 : t374.toList = a0.toList
 case neg =>
  rw [if_neg c64] at H
  have c64b0 : (t374.toList == a0.toList) = false := beq_eq_false_iff_ne.mpr c64
  have c64b1 : (t374.toList != a0.toList) = true := bne_iff_ne.mpr c64
  (first | rw [c64b0] | (simp only [i64_w, i32_w]; rw [c64b0]) | skip)
  simp only [Option.some.injEq, Prod.mk.injEq] at H
  obtain ⟨rfl, rfl, rfl, rfl, rfl, rfl⟩ := H
  have hnb68 := NB350_351.out
  have hnc68 := NB351_350.out
  have hcz69_0 : w63.cell? ⟨gb350, 0, none⟩ = some (.int .i64 0) := (blk_cell BK350.out 0).trans rfl
  have hcz69_1 : w63.cell? ⟨gb350, 1, none⟩ = some (.int .i64 0) := (blk_cell BK350.out 1).trans rfl
  have hcz69_2 : w63.cell? ⟨gb350, 2, none⟩ = some (.int .i64 0) := (blk_cell BK350.out 2).trans rfl
  have hcz69_3 : w63.cell? ⟨gb350, 3, none⟩ = some (.int .i64 0) := (blk_cell BK350.out 3).trans rfl
  have hcz69_4 : w63.cell? ⟨gb350, 4, none⟩ = some (.int .i64 0) := (blk_cell BK350.out 4).trans rfl
  have hfz69_0 := blk_frozen BK350.out 0
  have hfz69_1 := blk_frozen BK350.out 1
  have hfz69_2 := blk_frozen BK350.out 2
  have hfz69_3 := blk_frozen BK350.out 3
  have hfz69_4 := blk_frozen BK350.out 4
  go_wp2
  refine bodyPost_ret (results_ct rfl _ _ gb350 23 #[.int .i64 0, .int .i64 0, .int .i64 0, .int .i64 0, .int .i64 0] (0, 0) _ rfl (by (with_reducible repeat (first | refine blk_drewN ?_ _ | refine blk_drew ?_ | refine blk_alloc ?_ _)); refine blk_put (cs := #[.int .i64 0, .int .i64 0, .int .i64 0, .int .i64 0, .int .i64 0]) ?_ 4 _ rfl; (with_reducible repeat (first | refine blk_drewN ?_ _ | refine blk_drew ?_ | refine blk_alloc ?_ _)); refine blk_put (cs := #[.int .i64 0, .int .i64 0, .int .i64 0, .int .i64 0, .int .i64 0]) ?_ 3 _ rfl; (with_reducible repeat (first | refine blk_drewN ?_ _ | refine blk_drew ?_ | refine blk_alloc ?_ _)); refine blk_put (cs := #[.int .i64 0, .int .i64 0, .int .i64 0, .int .i64 0, .int .i64 0]) ?_ 2 _ rfl; (with_reducible repeat (first | refine blk_drewN ?_ _ | refine blk_drew ?_ | refine blk_alloc ?_ _)); refine blk_put (cs := #[.int .i64 0, .int .i64 0, .int .i64 0, .int .i64 0, .int .i64 0]) ?_ 1 _ rfl; (with_reducible repeat (first | refine blk_drewN ?_ _ | refine blk_drew ?_ | refine blk_alloc ?_ _)); refine blk_put (cs := #[.int .i64 0, .int .i64 0, .int .i64 0, .int .i64 0, .int .i64 0]) ?_ 0 _ rfl; (with_reducible repeat (first | refine blk_drewN ?_ _ | refine blk_drew ?_ | refine blk_alloc ?_ _)); exact BK350.out) Tryd.underlying23 rfl (by kernel_rfl)) rfl ?_
  exact ⟨by first | rfl | (simp [errW_none, errW_some] <;> rfl) | (simp [*, errW_none, errW_some] <;> rfl), by repeat (first | (with_reducible first | exact HB.out | apply below_alloc | apply pw_below_drewN | apply below_drew1 | refine below_set ?_ GE350.out | refine below_set ?_ GE351.out) | exact HB.out)⟩
 rw [if_pos c64] at H
 have c64b0 : (t374.toList == a0.toList) = true := beq_iff_eq.mpr c64
 have c64b1 : (t374.toList != a0.toList) = false := bne_eq_false_iff_eq.mpr c64
 clear c64
 (first | rw [c64b0] | (simp only [i64_w, i32_w]; rw [c64b0]) | skip)
 simp only [Option.some.injEq, Prod.mk.injEq] at H
 obtain ⟨rfl, rfl, rfl, rfl, rfl, rfl⟩ := H
 have hnb65 := NB351_350.out
 have hnc65 := NB350_351.out
 have hcz66_0 : w63.cell? ⟨gb351, 0, none⟩ = some (.int .i64 t366) := (blk_cell BK351.out 0).trans rfl
 have hcz66_1 : w63.cell? ⟨gb351, 1, none⟩ = some (.int .i64 t368) := (blk_cell BK351.out 1).trans rfl
 have hcz66_2 : w63.cell? ⟨gb351, 2, none⟩ = some (.int .i64 t370) := (blk_cell BK351.out 2).trans rfl
 have hcz66_3 : w63.cell? ⟨gb351, 3, none⟩ = some (.int .i64 t372) := (blk_cell BK351.out 3).trans rfl
 have hcz66_4 : w63.cell? ⟨gb351, 4, none⟩ = some (.int .i64 0) := (blk_cell BK351.out 4).trans rfl
 have hfz66_0 := blk_frozen BK351.out 0
 have hfz66_1 := blk_frozen BK351.out 1
 have hfz66_2 := blk_frozen BK351.out 2
 have hfz66_3 := blk_frozen BK351.out 3
 have hfz66_4 := blk_frozen BK351.out 4
 have hcz67_0 : w63.cell? ⟨gb350, 0, none⟩ = some (.int .i64 0) := (blk_cell BK350.out 0).trans rfl
 have hcz67_1 : w63.cell? ⟨gb350, 1, none⟩ = some (.int .i64 0) := (blk_cell BK350.out 1).trans rfl
 have hcz67_2 : w63.cell? ⟨gb350, 2, none⟩ = some (.int .i64 0) := (blk_cell BK350.out 2).trans rfl
 have hcz67_3 : w63.cell? ⟨gb350, 3, none⟩ = some (.int .i64 0) := (blk_cell BK350.out 3).trans rfl
 have hcz67_4 : w63.cell? ⟨gb350, 4, none⟩ = some (.int .i64 0) := (blk_cell BK350.out 4).trans rfl
 have hfz67_0 := blk_frozen BK350.out 0
 have hfz67_1 := blk_frozen BK350.out 1
 have hfz67_2 := blk_frozen BK350.out 2
 have hfz67_3 := blk_frozen BK350.out 3
 have hfz67_4 := blk_frozen BK350.out 4
 go_wp2
 refine bodyPost_ret (results_ct rfl _ _ gb350 23 #[.int .i64 t366, .int .i64 t368, .int .i64 t370, .int .i64 t372, .int .i64 0] (0, 0) _ rfl (by (with_reducible repeat (first | refine blk_drewN ?_ _ | refine blk_drew ?_ | refine blk_alloc ?_ _)); refine blk_put (cs := #[.int .i64 t366, .int .i64 t368, .int .i64 t370, .int .i64 t372, .int .i64 0]) ?_ 4 _ rfl; (with_reducible repeat (first | refine blk_drewN ?_ _ | refine blk_drew ?_ | refine blk_alloc ?_ _)); refine blk_put (cs := #[.int .i64 t366, .int .i64 t368, .int .i64 t370, .int .i64 0, .int .i64 0]) ?_ 3 _ rfl; (with_reducible repeat (first | refine blk_drewN ?_ _ | refine blk_drew ?_ | refine blk_alloc ?_ _)); refine blk_put (cs := #[.int .i64 t366, .int .i64 t368, .int .i64 0, .int .i64 0, .int .i64 0]) ?_ 2 _ rfl; (with_reducible repeat (first | refine blk_drewN ?_ _ | refine blk_drew ?_ | refine blk_alloc ?_ _)); refine blk_put (cs := #[.int .i64 t366, .int .i64 0, .int .i64 0, .int .i64 0, .int .i64 0]) ?_ 1 _ rfl; (with_reducible repeat (first | refine blk_drewN ?_ _ | refine blk_drew ?_ | refine blk_alloc ?_ _)); refine blk_put (cs := #[.int .i64 0, .int .i64 0, .int .i64 0, .int .i64 0, .int .i64 0]) ?_ 0 _ rfl; (with_reducible repeat (first | refine blk_drewN ?_ _ | refine blk_drew ?_ | refine blk_alloc ?_ _)); exact BK350.out) Tryd.underlying23 rfl (by kernel_rfl)) rfl ?_
 exact ⟨by first | rfl | (simp [errW_none, errW_some] <;> rfl) | (simp [*, errW_none, errW_some] <;> rfl), by repeat (first | (with_reducible first | exact HB.out | apply below_alloc | apply pw_below_drewN | apply below_drew1 | refine below_set ?_ GE350.out | refine below_set ?_ GE351.out) | exact HB.out)⟩
def spec_l1Pick.f (s0_0 : List Int) (s0_1 : Int) (s0_2 : Int) (l1 : List ByteArray) : Option (ByteArray × Int × Int) := (spec_l1Below.f s0_0 s0_1 s0_2 (l1.length : Int)).bind fun bt375 => (if 0 ≤ bt375.1 then (if bt375.1 < (l1.length : Int) then (some (rdOf ByteArray.empty l1 bt375.1, bt375.2.1, bt375.2.2)) else (none)) else (none))
set_option maxHeartbeats 8000000 in
set_option maxRecDepth 100000 in
theorem spec_l1Pick.calls (g : Nat) (s0_0 : List Int) (s0_1 : Int) (s0_2 : Int) (A1 : Option Addr) (c1 : Nat) (l1 : List ByteArray) (r1 : ByteArray) (r2 : Int) (r3 : Int) (w0 w : World) (hI : IsS118 w0 w g s0_0 s0_1 s0_2) (hB : Below w0.heap.size w0 w) (hr1 : Kd.C Kd.string w A1 l1.length l1) (hc1 : l1.length ≤ c1) (hf1 : ∀ ad, A1 = some ad → 0 < l1.length → ad.block ≠ g) (h : spec_l1Pick.f s0_0 s0_1 s0_2 l1 = some (r1, r2, r3)) :
    Calls Tryd.prog 100 #[.pointer (some ⟨g, 0, none⟩), .slice A1 l1.length c1] w fun e w' => e = .returned (.string r1) ∧ IsS118 w0 w' g s0_0 r2 r3 ∧ Below w0.heap.size w0 w' ∧ KeepBut w w' g none := by
 have HR1 := Aside0.mk hr1
 have HC1 := Aside0.mk hc1
 clear hr1 hc1
 have HI0 := Aside0.mk hI
 have HK := Aside0.mk (KeepBut.refl w g none)
 have HL := Aside0.mk hB.size
 clear hI
 have HW0 := Aside0.mk hB.size
 have HB := Aside0.mk hB
 clear hB
 have H : ((spec_l1Below.f s0_0 s0_1 s0_2 (l1.length : Int)).bind fun bt375 => (if 0 ≤ bt375.1 then (if bt375.1 < (l1.length : Int) then (some (rdOf ByteArray.empty l1 bt375.1, bt375.2.1, bt375.2.2)) else (none)) else (none))) = some (r1, r2, r3) := h
 clear h
 replace H := Option.bind_eq_some_iff.mp H
 obtain ⟨⟨t375, t376, t377⟩, A30, H⟩ := H
 replace H : (if 0 ≤ t375 then (if t375 < (l1.length : Int) then (some (rdOf ByteArray.empty l1 t375, t376, t377)) else (none)) else (none)) = some (r1, r2, r3) := H
 have A3 := Aside0.mk A30
 clear A30
 by_cases c4 : 0 ≤ t375
 case neg =>
  rw [if_neg c4] at H
  exact absurd H (by simp)
 rw [if_pos c4] at H
 have c4b0 : decide (0 ≤ t375) = true := decide_eq_true c4
 clear c4
 by_cases c5 : t375 < (l1.length : Int)
 case neg =>
  rw [if_neg c5] at H
  exact absurd H (by simp)
 rw [if_pos c5] at H
 have c5b0 : decide (t375 < (l1.length : Int)) = true := decide_eq_true c5
 clear c5
 simp only [Option.some.injEq, Prod.mk.injEq] at H
 obtain ⟨rfl, rfl, rfl⟩ := H
 go_enter Tryd.func100, Tryd.ntmps100
 go_wp2_with (first | ((with_reducible refine gate_callee (f := 99) rfl ?_); refine goesL_ (some 9) rfl rfl Tryd.func99 (by kernel_rfl) rfl #[.pointer (some ⟨g, 0, none⟩), .int .i64 (l1.length : Int)] rfl (by (try simp only [List.map_toArray, List.map_cons, List.map_nil]); first | done | rfl | (simp only [List.length_drop, List.length_take]; rfl)) ?_; (with_reducible refine (spec_l1Below.calls g s0_0 s0_1 s0_2 (l1.length : Int) t375 t376 t377 w0 _ ?side1 ?side2 A3.out).mono ?_); (case side1 => repeat (first | (with_reducible first | exact HI0.out | apply IsS118.alloc | apply IsS118.drewN | apply IsS118.drew | apply IsS118.set_1 | apply IsS118.set_2) | exact HI0.out)); (case side2 => repeat (first | (with_reducible first | exact HB.out | apply below_alloc | apply pw_below_drewN | apply below_drew1 | refine below_set ?_ (IsS118.ge HI0.out)) | exact HB.out)); rintro e w6 ⟨rfl, hi, hb, hk⟩; refine ⟨_, rfl, ?_⟩; have n_ := impl_ReadNode.K3_ (KeepBut.trans (by repeat (first | (with_reducible first | exact HK.out | apply KeepBut.set_ | apply keep_drewN | apply keep_drew | apply keep_alloc) | exact HK.out)) hk (.inl rfl)) hb hi; clear HK HB HI0; obtain ⟨HK, HB, HI0⟩ := n_; (try clear hb); (try clear hb2); (try clear hk); (try clear hi); have p378 : 0 ≤ (t375 : Int) := of_decide_eq_true (by first | (with_reducible assumption) | assumption); have q378 : t375 < (l1.length : Int) := of_decide_eq_true (by first | (with_reducible assumption) | assumption); obtain ⟨ad378, e378, hx378_0⟩ := Kd.at_string HR1.out t375 p378 q378; cases e378; replace hx378_0 := keep_cell HK.out hx378_0 (by first | (rw [add_block]; exact hf1 _ rfl (by omega)) | exact hf1 _ rfl (by omega) | exact hf1 ad378 rfl (by omega)); replace p378 := eq_true p378; replace q378 := eq_true q378))
 go_ret
 exact ⟨by first | rfl | (simp [errW_none, errW_some] <;> rfl) | (simp [*, errW_none, errW_some] <;> rfl), by repeat (first | (with_reducible first | exact HI0.out | apply IsS118.alloc | apply IsS118.drewN | apply IsS118.drew | apply IsS118.set_1 | apply IsS118.set_2) | exact HI0.out), by repeat (first | (with_reducible first | exact HB.out | apply below_alloc | apply pw_below_drewN | apply below_drew1 | refine below_set ?_ (IsS118.ge HI0.out)) | exact HB.out), by repeat (first | (with_reducible first | exact HK.out | apply KeepBut.set_ | apply keep_drewN | apply keep_drew | apply keep_alloc) | exact HK.out)⟩
def spec_l25Turned.f (s0_0 : List Int) (s0_1 : Int) (s0_2 : Int) (a1 : ByteArray) : Option (ByteArray × Int × Int) := (spec_l1Below.f s0_0 s0_1 s0_2 (wrap64 ((a1.size : Int) + 1))).bind fun bt379 => ((spec_l1Below.f s0_0 bt379.2.1 bt379.2.2 6).bind fun bt382 => (if bt382.1 = 0 then (if 0 ≤ bt379.1 then (if bt379.1 ≤ (a1.size : Int) then ((spec_l1Pick.f s0_0 bt382.2.1 bt382.2.2 (([(⟨#[32]⟩ : ByteArray), (⟨#[48]⟩ : ByteArray), (⟨#[49]⟩ : ByteArray), (⟨#[45]⟩ : ByteArray), (⟨#[120]⟩ : ByteArray), (⟨#[61]⟩ : ByteArray), (⟨#[60]⟩ : ByteArray), (⟨#[58]⟩ : ByteArray), (⟨#[44]⟩ : ByteArray), (⟨#[10]⟩ : ByteArray), (⟨#[116, 114, 101, 101, 32, 61, 49, 10]⟩ : ByteArray), (⟨#[98, 97, 115, 101, 32, 49, 10]⟩ : ByteArray)] : List ByteArray))).bind fun bt388 => (if (a1.extract 0 (bt379.1 : Int).toNat).size + bt388.1.size ≤ 9223372036854775807 then (if ((a1.extract 0 (bt379.1 : Int).toNat) ++ bt388.1).size + (a1.extract (bt379.1 : Int).toNat a1.size).size ≤ 9223372036854775807 then (some (((a1.extract 0 (bt379.1 : Int).toNat) ++ bt388.1) ++ (a1.extract (bt379.1 : Int).toNat a1.size), bt388.2.1, bt388.2.2)) else (none)) else (none))) else (none)) else (none)) else (if bt382.1 = 1 then (if 0 ≤ bt379.1 then (if bt379.1 ≤ (a1.size : Int) then (some (a1.extract 0 (bt379.1 : Int).toNat, bt382.2.1, bt382.2.2)) else (none)) else (none)) else (some (a1, bt382.2.1, bt382.2.2)))))
def spec_l25Turned.T4 : Bool × List (List Nat × List Nat) := (true, [([], []), ([], []), ([0, 1], [0, 1]), ([], []), ([], []), ([3, 4], [3, 4]), ([2, 5], [2, 5]), ([], []), ([], []), ([7, 8], [7, 8]), ([6, 9], [6, 9]), ([10, 5, 0, 1, 2, 3, 4, 5, 6, 7, 8, 9, 10], [10])])
def spec_l25Turned.B4 : List Nat := [0, 0, 3, 0, 0, 24, 63, 0, 0, 384, 1023, 2047]
theorem spec_l25Turned.tab4 : rtab .any (opsOf Tryd.f67 4) = spec_l25Turned.T4 := by kernel_rfl
theorem spec_l25Turned.bits4 : waitsOk spec_l25Turned.T4.2 spec_l25Turned.B4 = true := by kernel_rfl
set_option maxHeartbeats 8000000 in
set_option maxRecDepth 100000 in
theorem spec_l25Turned.calls (g : Nat) (s0_0 : List Int) (s0_1 : Int) (s0_2 : Int) (a1 : ByteArray) (r1 : ByteArray) (r2 : Int) (r3 : Int) (w0 w : World) (hI : IsS118 w0 w g s0_0 s0_1 s0_2) (hB : Below w0.heap.size w0 w) (h : spec_l25Turned.f s0_0 s0_1 s0_2 a1 = some (r1, r2, r3)) :
    Calls Tryd.prog 67 #[.pointer (some ⟨g, 0, none⟩), .string a1] w fun e w' => e = .returned (.string r1) ∧ IsS118 w0 w' g s0_0 r2 r3 ∧ Below w0.heap.size w0 w' ∧ KeepBut w w' g none := by
 have HI0 := Aside0.mk hI
 have HK := Aside0.mk (KeepBut.refl w g none)
 have HL := Aside0.mk hB.size
 clear hI
 have HW0 := Aside0.mk hB.size
 have HB := Aside0.mk hB
 clear hB
 have H : ((spec_l1Below.f s0_0 s0_1 s0_2 (wrap64 ((a1.size : Int) + 1))).bind fun bt379 => ((spec_l1Below.f s0_0 bt379.2.1 bt379.2.2 6).bind fun bt382 => (if bt382.1 = 0 then (if 0 ≤ bt379.1 then (if bt379.1 ≤ (a1.size : Int) then ((spec_l1Pick.f s0_0 bt382.2.1 bt382.2.2 (([(⟨#[32]⟩ : ByteArray), (⟨#[48]⟩ : ByteArray), (⟨#[49]⟩ : ByteArray), (⟨#[45]⟩ : ByteArray), (⟨#[120]⟩ : ByteArray), (⟨#[61]⟩ : ByteArray), (⟨#[60]⟩ : ByteArray), (⟨#[58]⟩ : ByteArray), (⟨#[44]⟩ : ByteArray), (⟨#[10]⟩ : ByteArray), (⟨#[116, 114, 101, 101, 32, 61, 49, 10]⟩ : ByteArray), (⟨#[98, 97, 115, 101, 32, 49, 10]⟩ : ByteArray)] : List ByteArray))).bind fun bt388 => (if (a1.extract 0 (bt379.1 : Int).toNat).size + bt388.1.size ≤ 9223372036854775807 then (if ((a1.extract 0 (bt379.1 : Int).toNat) ++ bt388.1).size + (a1.extract (bt379.1 : Int).toNat a1.size).size ≤ 9223372036854775807 then (some (((a1.extract 0 (bt379.1 : Int).toNat) ++ bt388.1) ++ (a1.extract (bt379.1 : Int).toNat a1.size), bt388.2.1, bt388.2.2)) else (none)) else (none))) else (none)) else (none)) else (if bt382.1 = 1 then (if 0 ≤ bt379.1 then (if bt379.1 ≤ (a1.size : Int) then (some (a1.extract 0 (bt379.1 : Int).toNat, bt382.2.1, bt382.2.2)) else (none)) else (none)) else (some (a1, bt382.2.1, bt382.2.2)))))) = some (r1, r2, r3) := h
 clear h
 replace H := Option.bind_eq_some_iff.mp H
 obtain ⟨⟨t379, t380, t381⟩, A30, H⟩ := H
 replace H : ((spec_l1Below.f s0_0 t380 t381 6).bind fun bt382 => (if bt382.1 = 0 then (if 0 ≤ t379 then (if t379 ≤ (a1.size : Int) then ((spec_l1Pick.f s0_0 bt382.2.1 bt382.2.2 (([(⟨#[32]⟩ : ByteArray), (⟨#[48]⟩ : ByteArray), (⟨#[49]⟩ : ByteArray), (⟨#[45]⟩ : ByteArray), (⟨#[120]⟩ : ByteArray), (⟨#[61]⟩ : ByteArray), (⟨#[60]⟩ : ByteArray), (⟨#[58]⟩ : ByteArray), (⟨#[44]⟩ : ByteArray), (⟨#[10]⟩ : ByteArray), (⟨#[116, 114, 101, 101, 32, 61, 49, 10]⟩ : ByteArray), (⟨#[98, 97, 115, 101, 32, 49, 10]⟩ : ByteArray)] : List ByteArray))).bind fun bt388 => (if (a1.extract 0 (t379 : Int).toNat).size + bt388.1.size ≤ 9223372036854775807 then (if ((a1.extract 0 (t379 : Int).toNat) ++ bt388.1).size + (a1.extract (t379 : Int).toNat a1.size).size ≤ 9223372036854775807 then (some (((a1.extract 0 (t379 : Int).toNat) ++ bt388.1) ++ (a1.extract (t379 : Int).toNat a1.size), bt388.2.1, bt388.2.2)) else (none)) else (none))) else (none)) else (none)) else (if bt382.1 = 1 then (if 0 ≤ t379 then (if t379 ≤ (a1.size : Int) then (some (a1.extract 0 (t379 : Int).toNat, bt382.2.1, bt382.2.2)) else (none)) else (none)) else (some (a1, bt382.2.1, bt382.2.2))))) = some (r1, r2, r3) := H
 have A3 := Aside0.mk A30
 clear A30
 replace H := Option.bind_eq_some_iff.mp H
 obtain ⟨⟨t382, t383, t384⟩, A40, H⟩ := H
 replace H : (if t382 = 0 then (if 0 ≤ t379 then (if t379 ≤ (a1.size : Int) then ((spec_l1Pick.f s0_0 t383 t384 (([(⟨#[32]⟩ : ByteArray), (⟨#[48]⟩ : ByteArray), (⟨#[49]⟩ : ByteArray), (⟨#[45]⟩ : ByteArray), (⟨#[120]⟩ : ByteArray), (⟨#[61]⟩ : ByteArray), (⟨#[60]⟩ : ByteArray), (⟨#[58]⟩ : ByteArray), (⟨#[44]⟩ : ByteArray), (⟨#[10]⟩ : ByteArray), (⟨#[116, 114, 101, 101, 32, 61, 49, 10]⟩ : ByteArray), (⟨#[98, 97, 115, 101, 32, 49, 10]⟩ : ByteArray)] : List ByteArray))).bind fun bt388 => (if (a1.extract 0 (t379 : Int).toNat).size + bt388.1.size ≤ 9223372036854775807 then (if ((a1.extract 0 (t379 : Int).toNat) ++ bt388.1).size + (a1.extract (t379 : Int).toNat a1.size).size ≤ 9223372036854775807 then (some (((a1.extract 0 (t379 : Int).toNat) ++ bt388.1) ++ (a1.extract (t379 : Int).toNat a1.size), bt388.2.1, bt388.2.2)) else (none)) else (none))) else (none)) else (none)) else (if t382 = 1 then (if 0 ≤ t379 then (if t379 ≤ (a1.size : Int) then (some (a1.extract 0 (t379 : Int).toNat, t383, t384)) else (none)) else (none)) else (some (a1, t383, t384)))) = some (r1, r2, r3) := H
 have A4 := Aside0.mk A40
 clear A40
 have HZ5 := Aside0.mk H
 clear H
 go_enter Tryd.func67, Tryd.ntmps67
 go_upto_if 13 with (first | ((with_reducible refine gate_callee (f := 99) rfl ?_); refine goesL_ (some 10) rfl rfl Tryd.func99 (by kernel_rfl) rfl #[.pointer (some ⟨g, 0, none⟩), .int .i64 (wrap64 ((a1.size : Int) + 1))] rfl (by (try simp only [List.map_toArray, List.map_cons, List.map_nil]); first | done | rfl | (simp only [List.length_drop, List.length_take]; rfl)) ?_; (with_reducible refine (spec_l1Below.calls g s0_0 s0_1 s0_2 (wrap64 ((a1.size : Int) + 1)) t379 t380 t381 w0 _ ?side1 ?side2 A3.out).mono ?_); (case side1 => repeat (first | (with_reducible first | exact HI0.out | apply IsS118.alloc | apply IsS118.drewN | apply IsS118.drew | apply IsS118.set_1 | apply IsS118.set_2) | exact HI0.out)); (case side2 => repeat (first | (with_reducible first | exact HB.out | apply below_alloc | apply pw_below_drewN | apply below_drew1 | refine below_set ?_ (IsS118.ge HI0.out)) | exact HB.out)); rintro e w6 ⟨rfl, hi, hb, hk⟩; refine ⟨_, rfl, ?_⟩; have n_ := impl_ReadNode.K3_ (KeepBut.trans (by repeat (first | (with_reducible first | exact HK.out | apply KeepBut.set_ | apply keep_drewN | apply keep_drew | apply keep_alloc) | exact HK.out)) hk (.inl rfl)) hb hi; clear HK HB HI0; obtain ⟨HK, HB, HI0⟩ := n_; (try clear hb); (try clear hb2); (try clear hk); (try clear hi)) | ((with_reducible refine gate_callee (f := 99) rfl ?_); refine goesL_ (some 12) rfl rfl Tryd.func99 (by kernel_rfl) rfl #[.pointer (some ⟨g, 0, none⟩), .int .i64 6] rfl (by (try simp only [List.map_toArray, List.map_cons, List.map_nil]); first | done | rfl | (simp only [List.length_drop, List.length_take]; rfl)) ?_; (with_reducible refine (spec_l1Below.calls g s0_0 t380 t381 6 t382 t383 t384 w0 _ ?side1 ?side2 A4.out).mono ?_); (case side1 => repeat (first | (with_reducible first | exact HI0.out | apply IsS118.alloc | apply IsS118.drewN | apply IsS118.drew | apply IsS118.set_1 | apply IsS118.set_2) | exact HI0.out)); (case side2 => repeat (first | (with_reducible first | exact HB.out | apply below_alloc | apply pw_below_drewN | apply below_drew1 | refine below_set ?_ (IsS118.ge HI0.out)) | exact HB.out)); rintro e w7 ⟨rfl, hi, hb, hk⟩; refine ⟨_, rfl, ?_⟩; have n_ := impl_ReadNode.K3_ (KeepBut.trans (by repeat (first | (with_reducible first | exact HK.out | apply KeepBut.set_ | apply keep_drewN | apply keep_drew | apply keep_alloc) | exact HK.out)) hk (.inl rfl)) hb hi; clear HK HB HI0; obtain ⟨HK, HB, HI0⟩ := n_; (try clear hb); (try clear hb2); (try clear hk); (try clear hi)))
 (try simp only [Act.put, List.setIfInBounds_toArray, List.set_cons_zero, List.set_cons_succ])
 have H := HZ5.out
 clear HZ5
 by_cases c8 : t382 = 0
 case neg =>
  rw [if_neg c8] at H
  have c8b0 : (t382 == 0) = false := beq_eq_false_iff_ne.mpr c8
  have c8b1 : (t382 != 0) = true := bne_iff_ne.mpr c8
  (first | rw [c8b0] | (simp only [i64_w, i32_w]; rw [c8b0]) | skip)
  by_cases c21 : t382 = 1
  case neg =>
   rw [if_neg c21] at H
   have c21b0 : (t382 == 1) = false := beq_eq_false_iff_ne.mpr c21
   have c21b1 : (t382 != 1) = true := bne_iff_ne.mpr c21
   simp only [Option.some.injEq, Prod.mk.injEq] at H
   obtain ⟨rfl, rfl, rfl⟩ := H
   go_wp2
   go_ret
   exact ⟨by first | rfl | (simp [errW_none, errW_some] <;> rfl) | (simp [*, errW_none, errW_some] <;> rfl), by repeat (first | (with_reducible first | exact HI0.out | apply IsS118.alloc | apply IsS118.drewN | apply IsS118.drew | apply IsS118.set_1 | apply IsS118.set_2) | exact HI0.out), by repeat (first | (with_reducible first | exact HB.out | apply below_alloc | apply pw_below_drewN | apply below_drew1 | refine below_set ?_ (IsS118.ge HI0.out)) | exact HB.out), by repeat (first | (with_reducible first | exact HK.out | apply KeepBut.set_ | apply keep_drewN | apply keep_drew | apply keep_alloc) | exact HK.out)⟩
  rw [if_pos c21] at H
  have c21b0 : (t382 == 1) = true := beq_iff_eq.mpr c21
  have c21b1 : (t382 != 1) = false := bne_eq_false_iff_eq.mpr c21
  clear c21
  by_cases c22 : 0 ≤ t379
  case neg =>
   rw [if_neg c22] at H
   exact absurd H (by simp)
  rw [if_pos c22] at H
  have c22b0 := eq_true c22
  have c22b1 : decide (0 ≤ t379) = true := decide_eq_true c22
  clear c22
  by_cases c23 : t379 ≤ (a1.size : Int)
  case neg =>
   rw [if_neg c23] at H
   exact absurd H (by simp)
  rw [if_pos c23] at H
  have c23b0 := eq_true c23
  have c23b1 : decide (t379 ≤ (a1.size : Int)) = true := decide_eq_true c23
  clear c23
  simp only [Option.some.injEq, Prod.mk.injEq] at H
  obtain ⟨rfl, rfl, rfl⟩ := H
  go_wp2
  go_ret
  exact ⟨by first | rfl | (simp [errW_none, errW_some] <;> rfl) | (simp [*, errW_none, errW_some] <;> rfl), by repeat (first | (with_reducible first | exact HI0.out | apply IsS118.alloc | apply IsS118.drewN | apply IsS118.drew | apply IsS118.set_1 | apply IsS118.set_2) | exact HI0.out), by repeat (first | (with_reducible first | exact HB.out | apply below_alloc | apply pw_below_drewN | apply below_drew1 | refine below_set ?_ (IsS118.ge HI0.out)) | exact HB.out), by repeat (first | (with_reducible first | exact HK.out | apply KeepBut.set_ | apply keep_drewN | apply keep_drew | apply keep_alloc) | exact HK.out)⟩
 rw [if_pos c8] at H
 have c8b0 : (t382 == 0) = true := beq_iff_eq.mpr c8
 have c8b1 : (t382 != 0) = false := bne_eq_false_iff_eq.mpr c8
 clear c8
 (first | rw [c8b0] | (simp only [i64_w, i32_w]; rw [c8b0]) | skip)
 by_cases c9 : 0 ≤ t379
 case neg =>
  rw [if_neg c9] at H
  exact absurd H (by simp)
 rw [if_pos c9] at H
 have c9b0 := eq_true c9
 have c9b1 : decide (0 ≤ t379) = true := decide_eq_true c9
 clear c9
 by_cases c10 : t379 ≤ (a1.size : Int)
 case neg =>
  rw [if_neg c10] at H
  exact absurd H (by simp)
 rw [if_pos c10] at H
 have c10b0 := eq_true c10
 have c10b1 : decide (t379 ≤ (a1.size : Int)) = true := decide_eq_true c10
 clear c10
 obtain ⟨y385, hy385⟩ : ∃ y_ : List ByteArray, y_ = (([(⟨#[32]⟩ : ByteArray), (⟨#[48]⟩ : ByteArray), (⟨#[49]⟩ : ByteArray), (⟨#[45]⟩ : ByteArray), (⟨#[120]⟩ : ByteArray), (⟨#[61]⟩ : ByteArray), (⟨#[60]⟩ : ByteArray), (⟨#[58]⟩ : ByteArray), (⟨#[44]⟩ : ByteArray), (⟨#[10]⟩ : ByteArray), (⟨#[116, 114, 101, 101, 32, 61, 49, 10]⟩ : ByteArray), (⟨#[98, 97, 115, 101, 32, 49, 10]⟩ : ByteArray)] : List ByteArray)) := ⟨_, rfl⟩
 replace H : ((spec_l1Pick.f s0_0 t383 t384 y385).bind fun bt388 => (if (a1.extract 0 (t379 : Int).toNat).size + bt388.1.size ≤ 9223372036854775807 then (if ((a1.extract 0 (t379 : Int).toNat) ++ bt388.1).size + (a1.extract (t379 : Int).toNat a1.size).size ≤ 9223372036854775807 then (some (((a1.extract 0 (t379 : Int).toNat) ++ bt388.1) ++ (a1.extract (t379 : Int).toNat a1.size), bt388.2.1, bt388.2.2)) else (none)) else (none))) = some (r1, r2, r3) := by first | (rw [hy385]; with_reducible exact H) | (have H2_ := (Option.bind_some _ _).symm.trans H; rw [hy385]; with_reducible exact H2_) | (have H2_ := (Option.bind_some _ _).symm.trans H; with_reducible exact H2_) | with_reducible exact H | (rw [hy385]; exact H) | exact H
 have Ny385 := Aside0.mk hy385
 clear hy385
 replace H := Option.bind_eq_some_iff.mp H
 obtain ⟨⟨t388, t389, t390⟩, A110, H⟩ := H
 replace H : (if (a1.extract 0 (t379 : Int).toNat).size + t388.size ≤ 9223372036854775807 then (if ((a1.extract 0 (t379 : Int).toNat) ++ t388).size + (a1.extract (t379 : Int).toNat a1.size).size ≤ 9223372036854775807 then (some (((a1.extract 0 (t379 : Int).toNat) ++ t388) ++ (a1.extract (t379 : Int).toNat a1.size), t389, t390)) else (none)) else (none)) = some (r1, r2, r3) := H
 have A11 := Aside0.mk A110
 clear A110
 by_cases c12 : (a1.extract 0 (t379 : Int).toNat).size + t388.size ≤ 9223372036854775807
 case neg =>
  rw [if_neg c12] at H
  exact absurd H (by simp)
 rw [if_pos c12] at H
 have c12b0 := eq_true c12
 have c12b1 : decide ((a1.extract 0 (t379 : Int).toNat).size + t388.size ≤ 9223372036854775807) = true := decide_eq_true c12
 try have c12b2 : (9223372036854775807 < (a1.extract 0 (t379 : Int).toNat).size + t388.size) = False := eq_false (Nat.not_lt.2 c12)
 (try (have c12n := c12; simp only [ByteArray.size_append] at c12n; have c12m := eq_false (Nat.not_lt.2 c12n)))
 (try (have c12h0 : min (t379 : Int).toNat a1.size = (t379 : Int).toNat := Nat.min_eq_left (by have h_ : t379 ≤ (a1.size : Int) := of_decide_eq_true (by assumption); omega); have c12x := c12; simp only [ByteArray.size_append, ByteArray.size_extract, Nat.min_self, Nat.sub_zero, c12h0] at c12x; have c12y := eq_false (Nat.not_lt.2 c12x)))
 have c13b0 := eq_true (of_decide_eq_true (by first | (with_reducible assumption) | assumption) : 0 ≤ t379)
 have c14b0 := eq_true (of_decide_eq_true (by first | (with_reducible assumption) | assumption) : t379 ≤ (a1.size : Int))
 by_cases c15 : ((a1.extract 0 (t379 : Int).toNat) ++ t388).size + (a1.extract (t379 : Int).toNat a1.size).size ≤ 9223372036854775807
 case neg =>
  rw [if_neg c15] at H
  exact absurd H (by simp)
 rw [if_pos c15] at H
 have c15b0 := eq_true c15
 have c15b1 : decide (((a1.extract 0 (t379 : Int).toNat) ++ t388).size + (a1.extract (t379 : Int).toNat a1.size).size ≤ 9223372036854775807) = true := decide_eq_true c15
 try have c15b2 : (9223372036854775807 < ((a1.extract 0 (t379 : Int).toNat) ++ t388).size + (a1.extract (t379 : Int).toNat a1.size).size) = False := eq_false (Nat.not_lt.2 c15)
 (try (have c15n := c15; simp only [ByteArray.size_append] at c15n; have c15m := eq_false (Nat.not_lt.2 c15n)))
 (try (have c15h0 : min (t379 : Int).toNat a1.size = (t379 : Int).toNat := Nat.min_eq_left (by have h_ : t379 ≤ (a1.size : Int) := of_decide_eq_true (by assumption); omega); have c15x := c15; simp only [ByteArray.size_append, ByteArray.size_extract, Nat.min_self, Nat.sub_zero, c15h0] at c15x; have c15y := eq_false (Nat.not_lt.2 c15x)))
 simp only [Option.some.injEq, Prod.mk.injEq] at H
 obtain ⟨rfl, rfl, rfl⟩ := H
 try go_wp2
 have n_ := impl_ReadNode.K3_ (IsS118.drew HI0.out) (keep_drew HK.out) (below_drew1 HB.out)
 clear HI0 HK HB
 obtain ⟨HI0, HK, HB⟩ := n_
 refine start_ (n := 12) (S := fun w' => True) (ds := []) #[false, false, false, false, false, false, false, false, false, false, false, false] (by kernel_rfl) rfl rfl trivial (fun hHeld => ?_); refine with_tabW spec_l25Turned.tab4 spec_l25Turned.bits4 (fun HT_ HW_ => ?_)
 generalize w7.drew = w16 at HI0 HK HB hHeld ⊢
 refine pure_ (i := 0) (N := some 15) (v := ?_) (a' := ?_) #[true, false, false, false, false, false, false, false, false, false, false, false] rfl rfl (any_of HT_.out (by kernel_rfl)) (fun _ _ _ h => h) (Or.inl ⟨by rfl, ?_⟩) ?_ ?_
 rotate_left
 ·intro w'
  go_simp
  with_reducible rfl
 rotate_left
 ·simp only [Act.put, List.setIfInBounds_toArray, List.set_cons_zero, List.set_cons_succ, i64_w, i32_w]
  rfl
 refine pure_ (i := 1) (N := some 16) (v := ?_) (a' := ?_) #[true, true, false, false, false, false, false, false, false, false, false, false] rfl rfl (any_of HT_.out (by kernel_rfl)) (fun _ _ _ h => h) (Or.inl ⟨by rfl, ?_⟩) ?_ ?_
 rotate_left
 ·intro w'
  go_simp
  with_reducible rfl
 rotate_left
 ·simp only [Act.put, List.setIfInBounds_toArray, List.set_cons_zero, List.set_cons_succ, i64_w, i32_w]
  rfl
 refine pure_ (i := 2) (N := some 17) (v := ?_) (a' := ?_) #[true, true, true, false, false, false, false, false, false, false, false, false] rfl rfl (any_of HT_.out (by kernel_rfl)) (fun _ _ _ h => h) (Or.inl ⟨by rfl, ?_⟩) ?_ ?_
 rotate_left
 ·intro w'
  go_simp
  with_reducible rfl
 rotate_left
 ·simp only [Act.put, List.setIfInBounds_toArray, List.set_cons_zero, List.set_cons_succ, i64_w, i32_w]
  rfl
 refine pure_ (i := 3) (N := some 18) (v := ?_) (a' := ?_) #[true, true, true, true, false, false, false, false, false, false, false, false] rfl rfl (any_of HT_.out (by kernel_rfl)) (fun _ _ _ h => h) (Or.inl ⟨by rfl, ?_⟩) ?_ ?_
 rotate_left
 ·intro w'
  go_simp
  with_reducible rfl
 rotate_left
 ·simp only [Act.put, List.setIfInBounds_toArray, List.set_cons_zero, List.set_cons_succ, i64_w, i32_w]
  rfl
 refine pure_ (i := 7) (N := some 22) (v := ?_) (a' := ?_) #[true, true, true, true, false, false, false, true, false, false, false, false] rfl rfl (any_of HT_.out (by kernel_rfl)) (fun _ _ _ h => h) (Or.inl ⟨by rfl, ?_⟩) ?_ ?_
 rotate_left
 ·intro w'
  go_simp
  with_reducible rfl
 rotate_left
 ·simp only [Act.put, List.setIfInBounds_toArray, List.set_cons_zero, List.set_cons_succ, i64_w, i32_w]
  rfl
 refine pure_ (i := 8) (N := some 23) (v := ?_) (a' := ?_) #[true, true, true, true, false, false, false, true, true, false, false, false] rfl rfl (any_of HT_.out (by kernel_rfl)) (fun _ _ _ h => h) (Or.inl ⟨by rfl, ?_⟩) ?_ ?_
 rotate_left
 ·intro w'
  go_simp
  with_reducible rfl
 rotate_left
 ·simp only [Act.put, List.setIfInBounds_toArray, List.set_cons_zero, List.set_cons_succ, i64_w, i32_w]
  rfl
 refine pure_ (i := 9) (N := some 24) (v := ?_) (a' := ?_) #[true, true, true, true, false, false, false, true, true, true, false, false] rfl rfl (any_of HT_.out (by kernel_rfl)) (fun _ _ _ h => h) (Or.inl ⟨by rfl, ?_⟩) ?_ ?_
 rotate_left
 ·intro w'
  go_simp
  with_reducible rfl
 rotate_left
 ·simp only [Act.put, List.setIfInBounds_toArray, List.set_cons_zero, List.set_cons_succ, i64_w, i32_w]
  rfl
 refine one_ (i := 4) (N := some 19) #[true, true, true, true, true, false, false, true, true, true, false, false] rfl rfl (one_of HT_.out (by kernel_rfl)) (by decide) (fun K hK => ?_)
 refine Kd.R_lit_step Kd.string _ 9 ?hg (N := 19) ?hd (xs := ([(⟨#[32]⟩ : ByteArray), (⟨#[48]⟩ : ByteArray), (⟨#[49]⟩ : ByteArray), (⟨#[45]⟩ : ByteArray), (⟨#[120]⟩ : ByteArray), (⟨#[61]⟩ : ByteArray), (⟨#[60]⟩ : ByteArray), (⟨#[58]⟩ : ByteArray), (⟨#[44]⟩ : ByteArray), (⟨#[10]⟩ : ByteArray), (⟨#[116, 114, 101, 101, 32, 61, 49, 10]⟩ : ByteArray), (⟨#[98, 97, 115, 101, 32, 49, 10]⟩ : ByteArray)] : List ByteArray)) (inner := [.string (⟨#[32]⟩ : ByteArray), .string (⟨#[48]⟩ : ByteArray), .string (⟨#[49]⟩ : ByteArray), .string (⟨#[45]⟩ : ByteArray), .string (⟨#[120]⟩ : ByteArray), .string (⟨#[61]⟩ : ByteArray), .string (⟨#[60]⟩ : ByteArray), .string (⟨#[58]⟩ : ByteArray), .string (⟨#[44]⟩ : ByteArray), .string (⟨#[10]⟩ : ByteArray), .string (⟨#[116, 114, 101, 101, 32, 61, 49, 10]⟩ : ByteArray), .string (⟨#[98, 97, 115, 101, 32, 49, 10]⟩ : ByteArray)]) (ok := fun _ => True) (okp := fun _ => True) ?hr ?hp (fun _ hk => hk) trivial (Below.refl _ _) (Nat.le_refl _) (by simp) ?_; (case hd => rfl); (case hg => rfl); (case hr => first | (go_simp; done) | (go_simp; rfl)); (case hp => exact (Reps.one (show Kd.M Kd.string _ _ _ (⟨#[32]⟩ : ByteArray) [.string (⟨#[32]⟩ : ByteArray)] from rfl) (Reps.one (show Kd.M Kd.string _ _ _ (⟨#[48]⟩ : ByteArray) [.string (⟨#[48]⟩ : ByteArray)] from rfl) (Reps.one (show Kd.M Kd.string _ _ _ (⟨#[49]⟩ : ByteArray) [.string (⟨#[49]⟩ : ByteArray)] from rfl) (Reps.one (show Kd.M Kd.string _ _ _ (⟨#[45]⟩ : ByteArray) [.string (⟨#[45]⟩ : ByteArray)] from rfl) (Reps.one (show Kd.M Kd.string _ _ _ (⟨#[120]⟩ : ByteArray) [.string (⟨#[120]⟩ : ByteArray)] from rfl) (Reps.one (show Kd.M Kd.string _ _ _ (⟨#[61]⟩ : ByteArray) [.string (⟨#[61]⟩ : ByteArray)] from rfl) (Reps.one (show Kd.M Kd.string _ _ _ (⟨#[60]⟩ : ByteArray) [.string (⟨#[60]⟩ : ByteArray)] from rfl) (Reps.one (show Kd.M Kd.string _ _ _ (⟨#[58]⟩ : ByteArray) [.string (⟨#[58]⟩ : ByteArray)] from rfl) (Reps.one (show Kd.M Kd.string _ _ _ (⟨#[44]⟩ : ByteArray) [.string (⟨#[44]⟩ : ByteArray)] from rfl) (Reps.one (show Kd.M Kd.string _ _ _ (⟨#[10]⟩ : ByteArray) [.string (⟨#[10]⟩ : ByteArray)] from rfl) (Reps.one (show Kd.M Kd.string _ _ _ (⟨#[116, 114, 101, 101, 32, 61, 49, 10]⟩ : ByteArray) [.string (⟨#[116, 114, 101, 101, 32, 61, 49, 10]⟩ : ByteArray)] from rfl) (Reps.one (show Kd.M Kd.string _ _ _ (⟨#[98, 97, 115, 101, 32, 49, 10]⟩ : ByteArray) [.string (⟨#[98, 97, 115, 101, 32, 49, 10]⟩ : ByteArray)] from rfl) (Reps.none _ _))))))))))))))
 intro v386 w17 ho18 hb hg_ hnew_
 clear hg_ hnew_
 (first | rw [← Ny385.out] at ho18 | (simp only [Int.reduceToNat] at ho18; rw [← Ny385.out] at ho18))
 have n_ := impl_ReadNode.K4_ (Kd.R_lower ho18 (keep_size (w := w) (g := g) (row := none) (by repeat (first | (with_reducible first | exact HK.out | apply KeepBut.set_ | apply keep_drewN | apply keep_drew | apply keep_alloc) | exact HK.out)))) (IsS118.below (by repeat (first | (with_reducible first | exact HI0.out | apply IsS118.alloc | apply IsS118.drewN | apply IsS118.drew | apply IsS118.set_1 | apply IsS118.set_2) | exact HI0.out)) hb) (KeepBut.trans (by repeat (first | (with_reducible first | exact HK.out | apply KeepBut.set_ | apply keep_drewN | apply keep_drew | apply keep_alloc) | exact HK.out)) (KeepBut.of_below hb g none) (.inl rfl)) (below_step (by repeat (first | (with_reducible first | exact HB.out | apply below_alloc | apply pw_below_drewN | apply below_drew1 | refine below_set ?_ (IsS118.ge HI0.out)) | exact HB.out)) hb)
 clear HI0 HK HB
 obtain ⟨HO387, HI0, HK, HB⟩ := n_
 clear hb ho18
 obtain ⟨Ao19, co19, eo19⟩ := Kd.R_slice HO387.out
 (first | subst eo19 | (injection eo19 with f1_ f2_ f3_; have f4_ := f1_.symm; have f5_ := f3_.symm; clear f1_ f2_ f3_; subst f4_; subst f5_))
 refine hK.out _ _ trivial (fun hHeld => ?_)
 clear hK K
 refine norm_ (a' := ?_) ?_ ?_
 rotate_left
 ·show Act.put _ (some 19) _ = _
  simp only [Act.put, List.setIfInBounds_toArray, List.set_cons_zero, List.set_cons_succ, i64_w, i32_w]
  rfl
 refine one_ (i := 5) (N := some 20) #[true, true, true, true, true, true, false, true, true, true, false, false] rfl rfl (one_of HT_.out (by kernel_rfl)) (by decide) (fun K hK => ?_)
 refine goes_ Tryd.func100 (by kernel_rfl) rfl #[.pointer (some ⟨g, 0, none⟩), .slice Ao19 y385.length co19] (by rfl) rfl rfl (by (try simp only [List.map_toArray, List.map_cons, List.map_nil]); first | done | rfl | (simp only [List.length_drop, List.length_take]; rfl)) ?_
 with_reducible refine (spec_l1Pick.calls g s0_0 t383 t384 _ _ y385 t388 t389 t390 w0 _ ?side1 ?side2 ?side3 ?side4 ?side5 A11.out).mono ?_
 (case side1 => repeat (first | (with_reducible first | exact HI0.out | apply IsS118.alloc | apply IsS118.drewN | apply IsS118.drew | apply IsS118.set_1 | apply IsS118.set_2) | exact HI0.out))
 (case side2 => repeat (first | (with_reducible first | exact HB.out | apply below_alloc | apply pw_below_drewN | apply below_drew1 | refine below_set ?_ (IsS118.ge HI0.out)) | exact HB.out))
 (case side3 => repeat (first | exact (Kd.R_reads' HO387.out).2.2 | (with_reducible refine Kd.C_alloc ?_ _) | (with_reducible refine Kd.C_drewN ?_ _) | (with_reducible refine Kd.C_drew ?_)))
 (case side4 => exact (Kd.R_reads' HO387.out).2.1)
 (case side5 => exact far_slice (IsS118.own_ne HI0.out HO387.out (by decide)))
 rintro e w20 ⟨rfl, hi, hb, hk⟩
 refine ⟨_, rfl, ?_⟩
 have n_ := impl_ReadNode.K4_ (Kd.R_mono (Kd.R_keep (IsS118.apart (show IsS118 w0 _ g s0_0 t383 t384 from by repeat (first | (with_reducible first | exact HI0.out | apply IsS118.alloc | apply IsS118.drewN | apply IsS118.drew | apply IsS118.set_1 | apply IsS118.set_2) | exact HI0.out)) (by (with_reducible repeat (first | apply Kd.R_alloc | apply Kd.R_drewN | apply Kd.R_drew)); exact HO387.out) (by decide)) hk (fun _ h => h.2)) (fun _ h => h.1)) (KeepBut.trans (by repeat (first | (with_reducible first | exact HK.out | apply KeepBut.set_ | apply keep_drewN | apply keep_drew | apply keep_alloc) | exact HK.out)) hk (.inl rfl)) hb hi
 clear HO387 HK HB HI0
 obtain ⟨HO387, HK, HB, HI0⟩ := n_
 (try clear hb)
 (try clear hb2)
 (try clear hk)
 (try clear hi)
 refine hK.out _ _ trivial (fun hHeld => ?_)
 clear hK K
 refine norm_ (a' := ?_) ?_ ?_
 rotate_left
 ·show Act.put _ (some 20) _ = _
  simp only [Act.put, List.setIfInBounds_toArray, List.set_cons_zero, List.set_cons_succ, i64_w, i32_w]
  rfl
 refine pure_ (i := 6) (N := some 21) (v := ?_) (a' := ?_) #[true, true, true, true, true, true, true, true, true, true, false, false] rfl rfl (any_of HT_.out (by kernel_rfl)) (fun _ _ _ h => h) (Or.inl ⟨by rfl, ?_⟩) ?_ ?_
 rotate_left
 ·intro w'
  go_simp
  with_reducible rfl
 rotate_left
 ·simp only [Act.put, List.setIfInBounds_toArray, List.set_cons_zero, List.set_cons_succ, i64_w, i32_w]
  rfl
 refine pure_ (i := 10) (N := some 25) (v := ?_) (a' := ?_) #[true, true, true, true, true, true, true, true, true, true, true, false] rfl rfl (any_of HT_.out (by kernel_rfl)) (fun _ _ _ h => h) (Or.inl ⟨by rfl, ?_⟩) ?_ ?_
 rotate_left
 ·intro w'
  go_simp
  with_reducible rfl
 rotate_left
 ·simp only [Act.put, List.setIfInBounds_toArray, List.set_cons_zero, List.set_cons_succ, i64_w, i32_w]
  rfl
 refine pure_ (i := 11) (N := some 4) (v := ?_) (a' := ?_) #[true, true, true, true, true, true, true, true, true, true, true, true] rfl rfl (any_of HT_.out (by kernel_rfl)) (fun _ _ _ h => h) (Or.inl ⟨by rfl, ?_⟩) ?_ ?_
 rotate_left
 ·intro w'
  go_simp
  with_reducible rfl
 rotate_left
 ·simp only [Act.put, List.setIfInBounds_toArray, List.set_cons_zero, List.set_cons_succ, i64_w, i32_w]
  rfl
 refine done_ (done_of HT_.out (by kernel_rfl)) ?_
 try go_wp2
 go_ret
 exact ⟨by first | rfl | (simp [errW_none, errW_some] <;> rfl) | (simp [*, errW_none, errW_some] <;> rfl), by repeat (first | (with_reducible first | exact HI0.out | apply IsS118.alloc | apply IsS118.drewN | apply IsS118.drew | apply IsS118.set_1 | apply IsS118.set_2) | exact HI0.out), by repeat (first | (with_reducible first | exact HB.out | apply below_alloc | apply pw_below_drewN | apply below_drew1 | refine below_set ?_ (IsS118.ge HI0.out)) | exact HB.out), by repeat (first | (with_reducible first | exact HK.out | apply KeepBut.set_ | apply keep_drewN | apply keep_drew | apply keep_alloc) | exact HK.out)⟩
def spec_DrawReadNode.f (k : Nat) (l0 : List Int) : Option (ByteArray) := (spec_l1New.f k l0).bind fun bt391 => ((spec_l25Node.f k bt391.1 bt391.2.1 bt391.2.2).bind fun bt395 => ((spec_NodeText.f k bt395.1 bt395.2.1 bt395.2.2.1 bt395.2.2.2.1 bt395.2.2.2.2.1).bind fun t402 => ((spec_l25Turned.f bt391.1 bt395.2.2.2.2.2.1 bt395.2.2.2.2.2.2 t402).bind fun bt403 => (some bt403.1))))
set_option maxHeartbeats 8000000 in
set_option maxRecDepth 100000 in
theorem spec_DrawReadNode.calls (k : Nat) (A0 : Option Addr) (c0 : Nat) (l0 : List Int) (r : ByteArray) (w : World) (hr0 : Kd.C (Kd.int .u8) w A0 l0.length l0) (hc0 : l0.length ≤ c0) (h : spec_DrawReadNode.f k l0 = some r) :
    Calls Tryd.prog 21 #[.slice A0 l0.length c0] w fun e w' => e = .returned (.string r) ∧ Below w.heap.size w w' := by
 have HR0 := Aside0.mk hr0
 have HC0 := Aside0.mk hc0
 clear hr0 hc0
 have HB := Aside0.mk (Below.refl w.heap.size w)
 have H : ((spec_l1New.f k l0).bind fun bt391 => ((spec_l25Node.f k bt391.1 bt391.2.1 bt391.2.2).bind fun bt395 => ((spec_NodeText.f k bt395.1 bt395.2.1 bt395.2.2.1 bt395.2.2.2.1 bt395.2.2.2.2.1).bind fun t402 => ((spec_l25Turned.f bt391.1 bt395.2.2.2.2.2.1 bt395.2.2.2.2.2.2 t402).bind fun bt403 => (some bt403.1))))) = some r := h
 clear h
 replace H := Option.bind_eq_some_iff.mp H
 obtain ⟨⟨t391, t392, t393⟩, A20, H⟩ := H
 replace H : ((spec_l25Node.f k t391 t392 t393).bind fun bt395 => ((spec_NodeText.f k bt395.1 bt395.2.1 bt395.2.2.1 bt395.2.2.2.1 bt395.2.2.2.2.1).bind fun t402 => ((spec_l25Turned.f t391 bt395.2.2.2.2.2.1 bt395.2.2.2.2.2.2 t402).bind fun bt403 => (some bt403.1)))) = some r := H
 have A2 := Aside0.mk A20
 clear A20
 replace H := Option.bind_eq_some_iff.mp H
 obtain ⟨⟨t395, t396, t397, t398, t399, t400, t401⟩, A30, H⟩ := H
 replace H : ((spec_NodeText.f k t395 t396 t397 t398 t399).bind fun t402 => ((spec_l25Turned.f t391 t400 t401 t402).bind fun bt403 => (some bt403.1))) = some r := H
 have A3 := Aside0.mk A30
 clear A30
 replace H := Option.bind_eq_some_iff.mp H
 obtain ⟨t402, A40, H⟩ := H
 replace H : ((spec_l25Turned.f t391 t400 t401 t402).bind fun bt403 => (some bt403.1)) = some r := H
 have A4 := Aside0.mk A40
 clear A40
 replace H := Option.bind_eq_some_iff.mp H
 obtain ⟨⟨t403, t404, t405⟩, A50, H⟩ := H
 replace H : (some t403) = some r := H
 have A5 := Aside0.mk A50
 clear A50
 obtain rfl := Option.some.inj H
 go_enter Tryd.func21, Tryd.ntmps21
 go_wp2_with (first | ((with_reducible refine gate_callee (f := 60) rfl ?_); refine goesL_ (some 5) rfl rfl Tryd.func60 (by kernel_rfl) rfl #[.slice A0 l0.length c0] rfl (by (try simp only [List.map_toArray, List.map_cons, List.map_nil]); first | done | rfl | (simp only [List.length_drop, List.length_take]; rfl)) ?_; (with_reducible refine (spec_l1New.calls k _ _ l0 t391 t392 t393 w _ ?side1 ?side2 ?side3 A2.out).mono ?_); (case side1 => repeat (first | (with_reducible first | exact HB.out | apply below_alloc | apply pw_below_drewN | apply below_drew1) | exact HB.out)); (case side2 => exact HR0.out); (case side3 => exact HC0.out); rintro e w6 ⟨g394, rfl, hi, hb, hb2⟩; refine ⟨_, rfl, ?_⟩; have n_ := impl_ReadNode.K2_ hb hi; clear HB; obtain ⟨HB, HI394⟩ := n_; (try clear hb); (try clear hb2); (try clear hk); (try clear hi)) | ((with_reducible refine gate_callee (f := 59) rfl ?_); refine goesL_ (some 8) rfl rfl Tryd.func59 (by kernel_rfl) rfl #[.pointer (some ⟨g394, 0, none⟩)] rfl (by (try simp only [List.map_toArray, List.map_cons, List.map_nil]); first | done | rfl | (simp only [List.length_drop, List.length_take]; rfl)) ?_; (with_reducible refine (spec_l25Node.calls k g394 t391 t392 t393 t395 t396 t397 t398 t399 t400 t401 w _ ?side1 ?side2 A3.out).mono ?_); (case side1 => repeat (first | (with_reducible first | exact HI394.out | apply IsS118.alloc | apply IsS118.drewN | apply IsS118.drew | apply IsS118.set_1 | apply IsS118.set_2) | exact HI394.out)); (case side2 => repeat (first | (with_reducible first | exact HB.out | apply below_alloc | apply pw_below_drewN | apply below_drew1 | refine below_set ?_ (IsS118.ge HI394.out)) | exact HB.out)); rintro e w7 ⟨rfl, hi, hb, hk⟩; refine ⟨_, rfl, ?_⟩; have n_ := impl_ReadNode.K2_ hb hi; clear HB HI394; obtain ⟨HB, HI394⟩ := n_; (try clear hb); (try clear hb2); (try clear hk); (try clear hi)) | ((with_reducible refine gate_callee (f := 20) rfl ?_); refine goesL_ (some 9) rfl rfl Tryd.func20 (by kernel_rfl) rfl #[.agg #[.int .i64 t395, .int .i64 t396, .int .i64 t397, .int .i64 t398, .int .i64 t399]] rfl (by (try simp only [List.map_toArray, List.map_cons, List.map_nil]); first | done | rfl | (simp only [List.length_drop, List.length_take]; rfl)) ?_; (with_reducible refine (spec_NodeText.calls k t395 t396 t397 t398 t399 t402 _ A4.out).mono ?_); rintro e w8 ⟨rfl, hb⟩; refine ⟨_, rfl, ?_⟩; have n_ := impl_ReadNode.K2_ (IsS118.below (by repeat (first | (with_reducible first | exact HI394.out | apply IsS118.alloc | apply IsS118.drewN | apply IsS118.drew | apply IsS118.set_1 | apply IsS118.set_2) | exact HI394.out)) hb) (below_step (by repeat (first | (with_reducible first | exact HB.out | apply below_alloc | apply pw_below_drewN | apply below_drew1 | refine below_set ?_ (IsS118.ge HI394.out)) | exact HB.out)) hb); clear HI394 HB; obtain ⟨HI394, HB⟩ := n_; (try clear hb); (try clear hb2); (try clear hk); (try clear hi)) | ((with_reducible refine gate_callee (f := 67) rfl ?_); refine goesL_ (some 10) rfl rfl Tryd.func67 (by kernel_rfl) rfl #[.pointer (some ⟨g394, 0, none⟩), .string t402] rfl (by (try simp only [List.map_toArray, List.map_cons, List.map_nil]); first | done | rfl | (simp only [List.length_drop, List.length_take]; rfl)) ?_; (with_reducible refine (spec_l25Turned.calls g394 t391 t400 t401 t402 t403 t404 t405 w _ ?side1 ?side2 A5.out).mono ?_); (case side1 => repeat (first | (with_reducible first | exact HI394.out | apply IsS118.alloc | apply IsS118.drewN | apply IsS118.drew | apply IsS118.set_1 | apply IsS118.set_2) | exact HI394.out)); (case side2 => repeat (first | (with_reducible first | exact HB.out | apply below_alloc | apply pw_below_drewN | apply below_drew1 | refine below_set ?_ (IsS118.ge HI394.out)) | exact HB.out)); rintro e w9 ⟨rfl, hi, hb, hk⟩; refine ⟨_, rfl, ?_⟩; have n_ := impl_ReadNode.K2_ hb hi; clear HB HI394; obtain ⟨HB, HI394⟩ := n_; (try clear hb); (try clear hb2); (try clear hk); (try clear hi)))
 go_ret
 exact ⟨by first | rfl | (simp [errW_none, errW_some] <;> rfl) | (simp [*, errW_none, errW_some] <;> rfl), by repeat (first | (with_reducible first | exact HB.out | apply below_alloc | apply pw_below_drewN | apply below_drew1 | refine below_set ?_ (IsS118.ge HI394.out)) | exact HB.out)⟩
def Bx (w W : World) (bx : List (Nat × Nat × Array Value)) : Prop := Below w.heap.size w W ∧ ∀ p ∈ bx, w.heap.size ≤ p.1 ∧ W.heap[p.1]? = some (.cells p.2.2 p.2.1 (0, 0))
theorem Bx.step {w W W' : World} {bx : List (Nat × Nat × Array Value)} (h : Bx w W bx) (hb : Below W.heap.size W W') : Bx w W' bx := ⟨below_step h.1 hb, fun p hp => ⟨(h.2 p hp).1, blk_below (h.2 p hp).2 hb⟩⟩
theorem Bx.box {w W W' : World} {bx : List (Nat × Nat × Array Value)} (h : Bx w W bx) (hb : Below W.heap.size W W') {g t : Nat} {cs : Array Value} (hg : g = W.heap.size) (hbox : W'.heap[g]? = some (.cells cs t (0, 0))) : Bx w W' ((g, t, cs) :: bx) :=
  ⟨(h.step hb).1, fun p hp => by
    rcases List.mem_cons.1 hp with rfl | hp
    · exact ⟨by rw [hg]; exact below_size h.1, hbox⟩
    · exact (h.step hb).2 p hp⟩
theorem Bx.fresh {w W : World} {bx : List (Nat × Nat × Array Value)} (h : Bx w W bx) {g : Nat} (hg : g = W.heap.size) : ∀ p ∈ bx, p.1 ≠ g := fun p hp => by rw [hg]; exact Nat.ne_of_lt (blk_lt (h.2 p hp).2)
theorem Bx.cells {w W : World} {bx : List (Nat × Nat × Array Value)} (h : Bx w W bx) (g t : Nat) (a b c d e : Value) (hp : (g, t, #[a, b, c, d, e]) ∈ bx) : W.cell? ⟨g, 0, none⟩ = some a ∧ W.cell? ⟨g, 1, none⟩ = some b ∧ W.cell? ⟨g, 2, none⟩ = some c ∧ W.cell? ⟨g, 3, none⟩ = some d ∧ W.cell? ⟨g, 4, none⟩ = some e := by
 have hb := (h.2 _ hp).2
 exact ⟨(blk_cell hb 0).trans rfl, (blk_cell hb 1).trans rfl, (blk_cell hb 2).trans rfl, (blk_cell hb 3).trans rfl, (blk_cell hb 4).trans rfl⟩
theorem Bx.fill {w W W' : World} {bx : List (Nat × Nat × Array Value)} {g t : Nat} {z0 z1 z2 z3 z4 a b c d e : Value} (h : Bx w W ((g, t, #[z0, z1, z2, z3, z4]) :: bx)) (hne : ∀ p ∈ bx, p.1 ≠ g)
    (hW : W' = ((((W.setCell ⟨g, 0, none⟩ a).setCell ⟨g, 1, none⟩ b).setCell ⟨g, 2, none⟩ c).setCell ⟨g, 3, none⟩ d).setCell ⟨g, 4, none⟩ e) : Bx w W' ((g, t, #[a, b, c, d, e]) :: bx) := by
  obtain ⟨hg, hz⟩ := h.2 _ (.head _)
  refine ⟨?_, fun p hp => ?_⟩
  · subst hW
    exact below_set (below_set (below_set (below_set (below_set h.1 hg) hg) hg) hg) hg
  · rcases List.mem_cons.1 hp with rfl | hp
    · subst hW
      have := blk_set (blk_set (blk_set (blk_set (blk_set hz 0 a) 1 b) 2 c) 3 d) 4 e
      exact ⟨hg, by simpa using this⟩
    · refine ⟨(h.2 p (.tail _ hp)).1, ?_⟩
      have hk := hne p hp
      subst hW
      rw [Below.heap_setCell _ _ _ _ hk, Below.heap_setCell _ _ _ _ hk, Below.heap_setCell _ _ _ _ hk, Below.heap_setCell _ _ _ _ hk, Below.heap_setCell _ _ _ _ hk]
      exact (h.2 p (.tail _ hp)).2
theorem Calls.below_of {P : Program} {f : FuncId} {args : Array Value} {w : World} {r : Ending} (h : Calls P f args w fun e w' => e = r ∧ Drawn0 w w') : Calls P f args w fun e w' => e = r ∧ Below w.heap.size w w' :=
  h.mono fun _ _ ⟨he, hd⟩ => ⟨he, hd.below⟩
def laws_FnNodeText.f (k : Nat) (l0 : List Int) : Option Bool :=
  (laws_big.f l0).bind fun big => if big = true then some true else
  (spec_DrawNodeText.f k l0).bind fun n => (impl_NodeText.f k n.1 n.2.1 n.2.2.1 n.2.2.2.1 n.2.2.2.2).bind fun s => (spec_NodeText.f k n.1 n.2.1 n.2.2.1 n.2.2.2.1 n.2.2.2.2).bind fun s2 =>
  (impl_ReadNode.f k s).bind fun q => (spec_DrawReadNode.f k l0).bind fun t => (impl_ReadNode.f k t).bind fun y => (impl_NodeText.f k y.1 y.2.1 y.2.2.1 y.2.2.2.1 y.2.2.2.2.1).bind fun z =>
  if s.toList = s2.toList ∧ q.2.2.2.2.2 = !s.toList.isEmpty ∧ (q.2.2.2.2.2 = true → q.1 = n.1 ∧ q.2.1 = n.2.1 ∧ q.2.2.1 = n.2.2.1 ∧ q.2.2.2.1 = n.2.2.2.1 ∧ q.2.2.2.2.1 = n.2.2.2.2) ∧ (y.2.2.2.2.2 = true → z.toList = t.toList) then some true else none
set_option maxHeartbeats 8000000 in
set_option maxRecDepth 100000 in
theorem laws_FnNodeText.calls (k : Nat) (A0 : Option Addr) (c0 : Nat) (l0 : List Int) (r : Bool) (w : World) (hr0 : Kd.C (Kd.int .u8) w A0 l0.length l0) (hc0 : l0.length ≤ c0) (hT : TabW w) (h : laws_FnNodeText.f k l0 = some r) :
    Calls Tryd.prog 5 #[.slice A0 l0.length c0] w fun e w' => e = .returned (.bool r) ∧ Below w.heap.size w w' := by
 have hu23 := Tryd.underlying23
 have HR := Aside0.mk hr0
 have HT := Aside0.mk hT
 clear hr0 hT
 have HI := Aside0.mk (show Bx w w [] from ⟨Below.refl _ _, fun p hp => by simp at hp⟩)
 unfold laws_FnNodeText.f at h
 obtain ⟨big, h1, h⟩ := Option.bind_eq_some_iff.mp h
 have X1 := Aside0.mk h1
 clear h1
 cases big with
 | true =>
  rw [if_pos rfl] at h
  obtain rfl := Option.some.inj h
  go_enter Tryd.func5, Tryd.ntmps5
  go_wp2_with (((with_reducible refine gate_dst (N := 11) rfl ?_); refine goesL_ (some 11) rfl rfl Tryd.func17 (by kernel_rfl) rfl #[.slice A0 l0.length c0] rfl (by (try simp only [List.map_toArray, List.map_cons, List.map_nil]); first | done | rfl) ?_; refine (Calls.below_of (laws_big.calls _ _ l0 true _ (Kd.C_below HR.out HI.out.1) hc0 X1.out)).mono ?_; rintro e w7 ⟨rfl, hb⟩; refine ⟨_, rfl, ?_⟩; (have hi7 := Bx.step HI.out hb); clear hb; clear HI; (have HI := Aside0.mk hi7); clear hi7; skip))
  go_ret
  exact ⟨by first | rfl | (simp; done), HI.out.1⟩
 | false =>
  rw [if_neg (by decide)] at h
  obtain ⟨⟨f, c, a, b, v⟩, h2, h⟩ := Option.bind_eq_some_iff.mp h
  obtain ⟨s, h3, h⟩ := Option.bind_eq_some_iff.mp h
  obtain ⟨s2, h4, h⟩ := Option.bind_eq_some_iff.mp h
  obtain ⟨⟨f1, c1, a1, b1, v1, ok1⟩, h5, h⟩ := Option.bind_eq_some_iff.mp h
  obtain ⟨t, h6, h⟩ := Option.bind_eq_some_iff.mp h
  obtain ⟨⟨f2, c2, a2, b2, v2, ok2⟩, h7, h⟩ := Option.bind_eq_some_iff.mp h
  obtain ⟨z, h8, h⟩ := Option.bind_eq_some_iff.mp h
  by_cases hc : s.toList = s2.toList ∧ ok1 = (!s.toList.isEmpty) ∧ (ok1 = true → f1 = f ∧ c1 = c ∧ a1 = a ∧ b1 = b ∧ v1 = v) ∧ (ok2 = true → z.toList = t.toList)
  case neg =>
   rw [if_neg hc] at h
   cases h
  rw [if_pos hc] at h
  obtain rfl := Option.some.inj h
  obtain ⟨d1, d2, d3, d4⟩ := hc
  have X2 := Aside0.mk h2
  have X3 := Aside0.mk h3
  have X4 := Aside0.mk h4
  have X5 := Aside0.mk h5
  have X6 := Aside0.mk h6
  have X7 := Aside0.mk h7
  have X8 := Aside0.mk h8
  clear h2 h3 h4 h5 h6 h7 h8
  have e1 : (s.toList == s2.toList) = true := beq_iff_eq.mpr d1
  have e2 : (s.toList != s2.toList) = false := bne_eq_false_iff_eq.mpr d1
  have D2 := Aside0.mk d2
  have D3 := Aside0.mk d3
  have D4 := Aside0.mk d4
  clear d1 d2 d3 d4
  go_enter Tryd.func5, Tryd.ntmps5
  go_upto_region 10 with (first | ((with_reducible refine gate_dst (N := 11) rfl ?_); refine goesL_ (some 11) rfl rfl Tryd.func17 (by kernel_rfl) rfl #[.slice A0 l0.length c0] rfl (by (try simp only [List.map_toArray, List.map_cons, List.map_nil]); first | done | rfl) ?_; refine (Calls.below_of (laws_big.calls _ _ l0 false _ (Kd.C_below HR.out HI.out.1) hc0 X1.out)).mono ?_; rintro e w7 ⟨rfl, hb⟩; refine ⟨_, rfl, ?_⟩; (have hi7 := Bx.step HI.out hb); clear hb; clear HI; (have HI := Aside0.mk hi7); clear hi7; skip) | ((with_reducible refine gate_dst (N := 13) rfl ?_); refine goesL_ (some 13) rfl rfl Tryd.func18 (by kernel_rfl) rfl #[.slice A0 l0.length c0] rfl (by (try simp only [List.map_toArray, List.map_cons, List.map_nil]); first | done | rfl) ?_; refine (spec_DrawNodeText.calls k _ _ l0 f c a b v _ (Kd.C_below HR.out HI.out.1) hc0 X2.out).mono ?_; rintro e w7 ⟨rfl, hb⟩; refine ⟨_, rfl, ?_⟩; (have hi7 := Bx.step HI.out hb); clear hb; clear HI; (have HI := Aside0.mk hi7); clear hi7; skip) | ((with_reducible refine gate_dst (N := 3) rfl ?_); refine box_event ?hg (N := 3) ?hd (cs := #[.int .i64 0, .int .i64 0, .int .i64 0, .int .i64 0, .int .i64 0]) (t := 23) ?hr ?_; (case hd => rfl); (case hg => rfl); (case hr => first | (go_simp; done) | (go_simp; rfl)); intro g3 hg w7 hbox hb; (have hf7 := Bx.fresh HI.out hg); (have hi7 := Bx.box HI.out hb hg hbox); clear hb hbox hg; (have HF3 := Aside0.mk hf7); clear hf7; clear HI; (have HI := Aside0.mk hi7); clear hi7; (obtain ⟨z3a, z3b, z3c, z3d, z3e⟩ := Bx.cells HI.out g3 _ _ _ _ _ _ (.head _)); (have zf3 := blk_frozen (HI.out.2 _ (.head _)).2)) | ((with_reducible refine gate_store (t := 23) (p := 3) rfl ?_); refine store_event (t := 23) (p := 3) (v := ?vo_3) (w1 := ((((w7.setCell ⟨g3, 0, none⟩ (.int .i64 f)).setCell ⟨g3, 1, none⟩ (.int .i64 c)).setCell ⟨g3, 2, none⟩ (.int .i64 a)).setCell ⟨g3, 3, none⟩ (.int .i64 b)).setCell ⟨g3, 4, none⟩ (.int .i64 v)) ?hg ?ho ?hn ?hr ?_; (case ho => rfl); (case hg => rfl); (case hn => rfl); (case hr => first | (go_simp; done) | (go_simp; rfl)); intro w7 hw; (have hi7 : Bx w w7 [(g3, 23, #[.int .i64 f, .int .i64 c, .int .i64 a, .int .i64 b, .int .i64 v])] := Bx.fill HI.out HF3.out hw); clear hw HF3 z3a z3b z3c z3d z3e zf3; clear HI; (have HI := Aside0.mk hi7); clear hi7; (try clear c3a c3b c3c c3d c3e); (obtain ⟨c3a, c3b, c3c, c3d, c3e⟩ := Bx.cells HI.out g3 _ _ _ _ _ _ (.head _))) | ((with_reducible refine gate_dst (N := 15) rfl ?_); refine goesL_ (some 15) rfl rfl Tryd.func19 (by kernel_rfl) rfl #[.agg #[.int .i64 f, .int .i64 c, .int .i64 a, .int .i64 b, .int .i64 v]] rfl (by (try simp only [List.map_toArray, List.map_cons, List.map_nil]); first | done | rfl) ?_; refine (impl_NodeText.calls k f c a b v s _ (tab_below HT.out HI.out.1) X3.out).mono ?_; rintro e w7 ⟨rfl, hb⟩; refine ⟨_, rfl, ?_⟩; (have hi7 := Bx.step HI.out hb); clear hb; clear HI; (have HI := Aside0.mk hi7); clear hi7; (try clear c3a c3b c3c c3d c3e); (obtain ⟨c3a, c3b, c3c, c3d, c3e⟩ := Bx.cells HI.out g3 _ _ _ _ _ _ (.head _))) | ((with_reducible refine gate_dst (N := 18) rfl ?_); refine goesL_ (some 18) rfl rfl Tryd.func20 (by kernel_rfl) rfl #[.agg #[.int .i64 f, .int .i64 c, .int .i64 a, .int .i64 b, .int .i64 v]] rfl (by (try simp only [List.map_toArray, List.map_cons, List.map_nil]); first | done | rfl) ?_; refine (spec_NodeText.calls k f c a b v s2 _ X4.out).mono ?_; rintro e w7 ⟨rfl, hb⟩; refine ⟨_, rfl, ?_⟩; (have hi7 := Bx.step HI.out hb); clear hb; clear HI; (have HI := Aside0.mk hi7); clear hi7; (try clear c3a c3b c3c c3d c3e); (obtain ⟨c3a, c3b, c3c, c3d, c3e⟩ := Bx.cells HI.out g3 _ _ _ _ _ _ (.head _))) | ((with_reducible refine gate_dst (N := 22) rfl ?_); refine goesL_ (some 22) rfl rfl Tryd.func10 (by kernel_rfl) rfl #[.string s] rfl (by (try simp only [List.map_toArray, List.map_cons, List.map_nil]); first | done | rfl) ?_; refine (impl_ReadNode.calls k s f1 c1 a1 b1 v1 ok1 _ (tab_below HT.out HI.out.1) X5.out).mono ?_; rintro e w7 ⟨rfl, hb⟩; refine ⟨_, rfl, ?_⟩; (have hi7 := Bx.step HI.out hb); clear hb; clear HI; (have HI := Aside0.mk hi7); clear hi7; (try clear c3a c3b c3c c3d c3e); (obtain ⟨c3a, c3b, c3c, c3d, c3e⟩ := Bx.cells HI.out g3 _ _ _ _ _ _ (.head _))) | ((with_reducible refine gate_dst (N := 5) rfl ?_); refine box_event ?hg (N := 5) ?hd (cs := #[.int .i64 0, .int .i64 0, .int .i64 0, .int .i64 0, .int .i64 0]) (t := 23) ?hr ?_; (case hd => rfl); (case hg => rfl); (case hr => first | (go_simp; done) | (go_simp; rfl)); intro g5 hg w7 hbox hb; (have hf7 := Bx.fresh HI.out hg); (have hi7 := Bx.box HI.out hb hg hbox); clear hb hbox hg; (have HF5 := Aside0.mk hf7); clear hf7; clear HI; (have HI := Aside0.mk hi7); clear hi7; (obtain ⟨z5a, z5b, z5c, z5d, z5e⟩ := Bx.cells HI.out g5 _ _ _ _ _ _ (.head _)); (have zf5 := blk_frozen (HI.out.2 _ (.head _)).2)) | ((with_reducible refine gate_store (t := 23) (p := 5) rfl ?_); refine store_event (t := 23) (p := 5) (v := ?vo_5) (w1 := ((((w7.setCell ⟨g5, 0, none⟩ (.int .i64 f1)).setCell ⟨g5, 1, none⟩ (.int .i64 c1)).setCell ⟨g5, 2, none⟩ (.int .i64 a1)).setCell ⟨g5, 3, none⟩ (.int .i64 b1)).setCell ⟨g5, 4, none⟩ (.int .i64 v1)) ?hg ?ho ?hn ?hr ?_; (case ho => rfl); (case hg => rfl); (case hn => rfl); (case hr => first | (go_simp; done) | (go_simp; rfl)); intro w7 hw; (have hi7 : Bx w w7 [(g5, 23, #[.int .i64 f1, .int .i64 c1, .int .i64 a1, .int .i64 b1, .int .i64 v1]), (g3, 23, #[.int .i64 f, .int .i64 c, .int .i64 a, .int .i64 b, .int .i64 v])] := Bx.fill HI.out HF5.out hw); clear hw HF5 z5a z5b z5c z5d z5e zf5; clear HI; (have HI := Aside0.mk hi7); clear hi7; (try clear c5a c5b c5c c5d c5e); (obtain ⟨c5a, c5b, c5c, c5d, c5e⟩ := Bx.cells HI.out g5 _ _ _ _ _ _ (.head _)); (try clear c3a c3b c3c c3d c3e); (obtain ⟨c3a, c3b, c3c, c3d, c3e⟩ := Bx.cells HI.out g3 _ _ _ _ _ _ (.tail _ (.head _)))) | ((with_reducible refine gate_dst (N := 26) rfl ?_); refine goesL_ (some 26) rfl rfl Tryd.func21 (by kernel_rfl) rfl #[.slice A0 l0.length c0] rfl (by (try simp only [List.map_toArray, List.map_cons, List.map_nil]); first | done | rfl) ?_; refine (spec_DrawReadNode.calls k _ _ l0 t _ (Kd.C_below HR.out HI.out.1) hc0 X6.out).mono ?_; rintro e w7 ⟨rfl, hb⟩; refine ⟨_, rfl, ?_⟩; (have hi7 := Bx.step HI.out hb); clear hb; clear HI; (have HI := Aside0.mk hi7); clear hi7; (try clear c5a c5b c5c c5d c5e); (obtain ⟨c5a, c5b, c5c, c5d, c5e⟩ := Bx.cells HI.out g5 _ _ _ _ _ _ (.head _)); (try clear c3a c3b c3c c3d c3e); (obtain ⟨c3a, c3b, c3c, c3d, c3e⟩ := Bx.cells HI.out g3 _ _ _ _ _ _ (.tail _ (.head _)))) | ((with_reducible refine gate_dst (N := 29) rfl ?_); refine goesL_ (some 29) rfl rfl Tryd.func10 (by kernel_rfl) rfl #[.string t] rfl (by (try simp only [List.map_toArray, List.map_cons, List.map_nil]); first | done | rfl) ?_; refine (impl_ReadNode.calls k t f2 c2 a2 b2 v2 ok2 _ (tab_below HT.out HI.out.1) X7.out).mono ?_; rintro e w7 ⟨rfl, hb⟩; refine ⟨_, rfl, ?_⟩; (have hi7 := Bx.step HI.out hb); clear hb; clear HI; (have HI := Aside0.mk hi7); clear hi7; (try clear c5a c5b c5c c5d c5e); (obtain ⟨c5a, c5b, c5c, c5d, c5e⟩ := Bx.cells HI.out g5 _ _ _ _ _ _ (.head _)); (try clear c3a c3b c3c c3d c3e); (obtain ⟨c3a, c3b, c3c, c3d, c3e⟩ := Bx.cells HI.out g3 _ _ _ _ _ _ (.tail _ (.head _)))) | ((with_reducible refine gate_dst (N := 8) rfl ?_); refine box_event ?hg (N := 8) ?hd (cs := #[.int .i64 0, .int .i64 0, .int .i64 0, .int .i64 0, .int .i64 0]) (t := 23) ?hr ?_; (case hd => rfl); (case hg => rfl); (case hr => first | (go_simp; done) | (go_simp; rfl)); intro g8 hg w7 hbox hb; (have hf7 := Bx.fresh HI.out hg); (have hi7 := Bx.box HI.out hb hg hbox); clear hb hbox hg; (have HF8 := Aside0.mk hf7); clear hf7; clear HI; (have HI := Aside0.mk hi7); clear hi7; (obtain ⟨z8a, z8b, z8c, z8d, z8e⟩ := Bx.cells HI.out g8 _ _ _ _ _ _ (.head _)); (have zf8 := blk_frozen (HI.out.2 _ (.head _)).2)) | ((with_reducible refine gate_store (t := 23) (p := 8) rfl ?_); refine store_event (t := 23) (p := 8) (v := ?vo_8) (w1 := ((((w7.setCell ⟨g8, 0, none⟩ (.int .i64 f2)).setCell ⟨g8, 1, none⟩ (.int .i64 c2)).setCell ⟨g8, 2, none⟩ (.int .i64 a2)).setCell ⟨g8, 3, none⟩ (.int .i64 b2)).setCell ⟨g8, 4, none⟩ (.int .i64 v2)) ?hg ?ho ?hn ?hr ?_; (case ho => rfl); (case hg => rfl); (case hn => rfl); (case hr => first | (go_simp; done) | (go_simp; rfl)); intro w7 hw; (have hi7 : Bx w w7 [(g8, 23, #[.int .i64 f2, .int .i64 c2, .int .i64 a2, .int .i64 b2, .int .i64 v2]), (g5, 23, #[.int .i64 f1, .int .i64 c1, .int .i64 a1, .int .i64 b1, .int .i64 v1]), (g3, 23, #[.int .i64 f, .int .i64 c, .int .i64 a, .int .i64 b, .int .i64 v])] := Bx.fill HI.out HF8.out hw); clear hw HF8 z8a z8b z8c z8d z8e zf8; clear HI; (have HI := Aside0.mk hi7); clear hi7; (try clear c8a c8b c8c c8d c8e); (obtain ⟨c8a, c8b, c8c, c8d, c8e⟩ := Bx.cells HI.out g8 _ _ _ _ _ _ (.head _)); (try clear c5a c5b c5c c5d c5e); (obtain ⟨c5a, c5b, c5c, c5d, c5e⟩ := Bx.cells HI.out g5 _ _ _ _ _ _ (.tail _ (.head _))); (try clear c3a c3b c3c c3d c3e); (obtain ⟨c3a, c3b, c3c, c3d, c3e⟩ := Bx.cells HI.out g3 _ _ _ _ _ _ (.tail _ (.tail _ (.head _))))))
  (try simp only [Act.put, List.setIfInBounds_toArray, List.set_cons_zero, List.set_cons_succ])
  clear e1 e2
  cases ok1 with
  | true =>
   have m1 : s.toList.isEmpty = false := by have := D2.out; simpa using this.symm
   have m2 : (s.toList != ([] : List UInt8)) = true := by have := List.isEmpty_eq_false_iff.1 m1; simpa using this
   have m3 : ¬ s.toList = [] := List.isEmpty_eq_false_iff.1 m1
   obtain ⟨rfl, rfl, rfl, rfl, rfl⟩ := D3.out rfl
   cases ok2 with
   | true =>
    have m4 : (z.toList == t.toList) = true := beq_iff_eq.mpr (D4.out rfl)
    go_wp2_with ((go_at_call 19; refine (impl_NodeText.calls k f2 c2 a2 b2 v2 z _ (tab_below HT.out HI.out.1) X8.out).mono ?_; rintro e w7 ⟨rfl, hb⟩; (have hi7 := Bx.step HI.out hb); clear hb; clear HI; (have HI := Aside0.mk hi7); clear hi7; (try clear c8a c8b c8c c8d c8e); (obtain ⟨c8a, c8b, c8c, c8d, c8e⟩ := Bx.cells HI.out g8 _ _ _ _ _ _ (.head _)); (try clear c5a c5b c5c c5d c5e); (obtain ⟨c5a, c5b, c5c, c5d, c5e⟩ := Bx.cells HI.out g5 _ _ _ _ _ _ (.tail _ (.head _))); (try clear c3a c3b c3c c3d c3e); (obtain ⟨c3a, c3b, c3c, c3d, c3e⟩ := Bx.cells HI.out g3 _ _ _ _ _ _ (.tail _ (.tail _ (.head _))))))
    go_ret
    exact ⟨by first | rfl | (simp; done) | (simp [*]; done), HI.out.1⟩
   | false =>
    go_wp2
    go_ret
    exact ⟨by first | rfl | (simp; done) | (simp [*]; done), HI.out.1⟩
  | false =>
   have m1 : s.toList.isEmpty = true := by have := D2.out; simpa using this.symm
   have m3 : s.toList = [] := List.isEmpty_iff.1 m1
   have m2 : (s.toList != ([] : List UInt8)) = false := by rw [m3]; rfl
   cases ok2 with
   | true =>
    have m4 : (z.toList == t.toList) = true := beq_iff_eq.mpr (D4.out rfl)
    go_wp2_with ((go_at_call 19; refine (impl_NodeText.calls k f2 c2 a2 b2 v2 z _ (tab_below HT.out HI.out.1) X8.out).mono ?_; rintro e w7 ⟨rfl, hb⟩; (have hi7 := Bx.step HI.out hb); clear hb; clear HI; (have HI := Aside0.mk hi7); clear hi7; (try clear c8a c8b c8c c8d c8e); (obtain ⟨c8a, c8b, c8c, c8d, c8e⟩ := Bx.cells HI.out g8 _ _ _ _ _ _ (.head _)); (try clear c5a c5b c5c c5d c5e); (obtain ⟨c5a, c5b, c5c, c5d, c5e⟩ := Bx.cells HI.out g5 _ _ _ _ _ _ (.tail _ (.head _))); (try clear c3a c3b c3c c3d c3e); (obtain ⟨c3a, c3b, c3c, c3d, c3e⟩ := Bx.cells HI.out g3 _ _ _ _ _ _ (.tail _ (.tail _ (.head _))))))
    go_ret
    exact ⟨by first | rfl | (simp; done) | (simp [*]; done), HI.out.1⟩
   | false =>
    go_wp2
    go_ret
    exact ⟨by first | rfl | (simp; done) | (simp [*]; done), HI.out.1⟩
end Go.Proofs.YtcgmdpnhlkbpbaaDoor.XFnNodeText
