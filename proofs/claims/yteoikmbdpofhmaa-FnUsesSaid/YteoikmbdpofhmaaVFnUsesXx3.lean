import Derived.Test.YteoikmbdpofhmaaVFnUsesXx0
import Derived.Test.YteoikmbdpofhmaaVFnUsesXx1
import Derived.Test.YteoikmbdpofhmaaVFnUsesXx2
namespace Go.Proofs.Yteoikmbdpofhmaa.XFnUses
open Go.RowKit Go.Proofs.YteoikmbdpofhmaaW.PrintWords Go.Proofs.YteoikmbdpofhmaaW.PrintLast Go.Proofs.YteoikmbdpofhmaaW.PrintMore
attribute [local go_sem] max2_int min2_int max_two min_two max_three min_three max_four min_four
set_option linter.unusedVariables false
set_option linter.unusedSimpArgs false
theorem spec_l17Shape.K2_ {p0 p1 : Prop} (h0 : p0) (h1 : p1) : Aside0 p0 ∧ Aside0 p1 := ⟨⟨h0⟩, ⟨h1⟩⟩
theorem spec_l17Shape.K3_ {p0 p1 p2 : Prop} (h0 : p0) (h1 : p1) (h2 : p2) : Aside0 p0 ∧ Aside0 p1 ∧ Aside0 p2 := ⟨⟨h0⟩, ⟨h1⟩, ⟨h2⟩⟩
theorem spec_l17Shape.K4_ {p0 p1 p2 p3 : Prop} (h0 : p0) (h1 : p1) (h2 : p2) (h3 : p3) : Aside0 p0 ∧ Aside0 p1 ∧ Aside0 p2 ∧ Aside0 p3 := ⟨⟨h0⟩, ⟨h1⟩, ⟨h2⟩, ⟨h3⟩⟩
theorem spec_l17Shape.K7_ {p0 p1 p2 p3 p4 p5 p6 : Prop} (h0 : p0) (h1 : p1) (h2 : p2) (h3 : p3) (h4 : p4) (h5 : p5) (h6 : p6) : Aside0 p0 ∧ Aside0 p1 ∧ Aside0 p2 ∧ Aside0 p3 ∧ Aside0 p4 ∧ Aside0 p5 ∧ Aside0 p6 := ⟨⟨h0⟩, ⟨h1⟩, ⟨h2⟩, ⟨h3⟩, ⟨h4⟩, ⟨h5⟩, ⟨h6⟩⟩
attribute [local go_sem high] eqA93
mutual
def spec_l17Shape.l0 : Nat → Int → Int → Int → List (S93) → Option (Bool)
  | 0, _, _, _, _ => none
  | k + 1, x1, x5, x6, x177000 => if x6 < (x177000.length : Int) then (if 0 ≤ x6 then ((spec_l17Inner.f ((rd_T93 x177000 x6).f0) ((rd_T93 x177000 x6).f1) ((rd_T93 x177000 x6).f2) ((rd_T93 x177000 x6).f3) ((rd_T93 x177000 x6).f4)).bind fun t179 => (if t179 = true then ((spec_l1In.f ((rd_T93 x177000 x6).f0) 0 (wrap64 (x1 - 1))).bind fun t181 => (if t181 = true then ((spec_l6Value.f ((rd_T93 x177000 x6).f1)).bind fun t182 => (if t182 = true then (if ((rd_T93 x177000 x6).f4) = 0 then (if ((rd_T93 x177000 x6).f2) = x5 then (if ((rd_T93 x177000 x6).f3) = (wrap64 (x5 + 1)) then (spec_l17Shape.j1 k x1 x5 x6 (decide (((rd_T93 x177000 x6).f2) ≤ x6)) x177000) else (spec_l17Shape.j1 k x1 x5 x6 true x177000)) else (spec_l17Shape.j1 k x1 x5 x6 true x177000)) else (spec_l17Shape.j1 k x1 x5 x6 true x177000)) else (spec_l17Shape.j1 k x1 x5 x6 true x177000))) else (spec_l17Shape.j1 k x1 x5 x6 true x177000))) else (if (!(((rd_T93 x177000 x6).f0) == (-1)) || (!(((rd_T93 x177000 x6).f1) == 0) || (!(((rd_T93 x177000 x6).f2) == 0) || (!(((rd_T93 x177000 x6).f3) == 0))))) = true then (some false) else ((spec_l14Leaf.f ((rd_T93 x177000 x6).f4)).bind fun t180 => (if t180 = true then (spec_l17Shape.l0 k x1 x5 (wrap64 (x6 + 1)) x177000) else (some false)))))) else (none)) else (some (x5 == (x177000.length : Int)))
def spec_l17Shape.j1 : Nat → Int → Int → Int → Bool → List (S93) → Option (Bool)
  | 0, _, _, _, _, _ => none
  | k + 1, x1, x5, x6, x69, x177000 => if x69 = true then (some false) else (spec_l17Shape.l0 k x1 (wrap64 (x5 + 2)) (wrap64 (x6 + 1)) x177000)
end
def spec_l17Shape.f (k : Nat) (l0_0 : List (S93)) (a1 : Int) : Option (Bool) := spec_l17Shape.l0 k a1 1 0 l0_0
set_option maxHeartbeats 8000000 in
set_option maxRecDepth 100000 in
theorem spec_l17Shape.calls (k : Nat) (A0_0 : Option Addr) (c0_0 : Nat) (l0_0 : List (S93)) (a1 : Int) (r : Bool) (w : World) (hr0_0 : Kd.C k93 w A0_0 l0_0.length l0_0) (hc0_0 : l0_0.length ≤ c0_0) (h : spec_l17Shape.f k l0_0 a1 = some r) :
    Calls Try.prog 123 #[.agg #[.slice A0_0 l0_0.length c0_0], .int .i64 a1] w fun e w' => e = .returned (.bool r) ∧ Below w.heap.size w w' := by
 have hu68 := Try.underlying68
 have hu93 := Try.underlying93
 have HR0_0 := Aside0.mk hr0_0
 have HC0_0 := Aside0.mk hc0_0
 clear hr0_0 hc0_0
 have HB := Aside0.mk (Below.refl w.heap.size w)
 have H : (spec_l17Shape.l0 k a1 1 0 l0_0) = some r := h
 clear h
 have H' := Aside0.mk H
 clear H
 go_enter Try.func123, Try.ntmps123
 go_wp2_with (first | ((with_reducible refine gate_dst (N := 2) rfl ?_); refine box_event ?hg (N := 2) ?hd (cs := #[.slice A0_0 l0_0.length c0_0]) (t := 68) ?hr ?_; (case hd => rfl); (case hg => rfl); (case hr => exact g10); intro gb176 hg w3 hbox hb; have n_ := spec_l17Shape.K4_ (below_step (g4 HB.out) hb) hbox ((g11 HB.out : w.heap.size ≤ gb176)) ((g11 HB.out : w.heap.size ≤ gb176)); clear HB; obtain ⟨HB, BK176, GW176, GE176⟩ := n_; clear hb hbox hg))
 go_loopg [5, 6] k (fun kq v5 v6 w' => ∃ (x5_1 : Int) (x6_1 : Int), v5 = .int .i64 x5_1 ∧ v6 = .int .i64 x6_1 ∧ Aside0 (spec_l17Shape.l0 kq a1 x5_1 x6_1 l0_0 = some r) ∧ Aside0 (kq ≤ k) ∧ Aside0 (w'.heap[gb176]? = some (.cells #[(.slice A0_0 l0_0.length c0_0)] 68 (0, 0))) ∧ Aside0 (Below w.heap.size w w'))
 case atStart => exact ⟨(1), (0), (g0), (g0), H', ⟨Nat.le_refl _⟩, ⟨g2 BK176.out⟩, ⟨g12 HB.out GE176.out⟩⟩
 case round =>
  clear H'
  try clear c1
  try clear p2
  obtain ⟨x5_1, x6_1, rfl, rfl, HA, HK1, BK176, HB⟩ := hrel
  cases gk with
  | zero => exact absurd HA.out (by simp [spec_l17Shape.l0])
  | succ k1 =>
   have H := HA.out
   clear HA
   simp only [spec_l17Shape.l0] at H
   by_cases c4 : x6_1 < (l0_0.length : Int)
   case neg =>
    rw [if_neg c4] at H
    have c4b0 : decide (x6_1 < (l0_0.length : Int)) = false := decide_eq_false c4
    clear c4
    obtain rfl := Option.some.inj H
    have hcz44_0 : wr.cell? ⟨gb176, 0, none⟩ = some (.slice A0_0 l0_0.length c0_0) := (blk_cell BK176.out 0).trans rfl
    have hfz44_0 := blk_frozen BK176.out 0
    go_wp2
    go_ret
    exact ⟨g5, g12 HB.out GE176.out⟩
   rw [if_pos c4] at H
   have c4b0 : decide (x6_1 < (l0_0.length : Int)) = true := decide_eq_true c4
   clear c4
   by_cases c5 : 0 ≤ x6_1
   case neg =>
    rw [if_neg c5] at H
    exact absurd H (by simp)
   rw [if_pos c5] at H
   have c5b0 : decide (0 ≤ x6_1) = true := decide_eq_true c5
   clear c5
   replace H := Option.bind_eq_some_iff.mp H
   obtain ⟨t179, A60, H⟩ := H
   replace H : (if t179 = true then ((spec_l1In.f ((rd_T93 l0_0 x6_1).f0) 0 (wrap64 (a1 - 1))).bind fun t181 => (if t181 = true then ((spec_l6Value.f ((rd_T93 l0_0 x6_1).f1)).bind fun t182 => (if t182 = true then (if ((rd_T93 l0_0 x6_1).f4) = 0 then (if ((rd_T93 l0_0 x6_1).f2) = x5_1 then (if ((rd_T93 l0_0 x6_1).f3) = (wrap64 (x5_1 + 1)) then (spec_l17Shape.j1 k1 a1 x5_1 x6_1 (decide (((rd_T93 l0_0 x6_1).f2) ≤ x6_1)) l0_0) else (spec_l17Shape.j1 k1 a1 x5_1 x6_1 true l0_0)) else (spec_l17Shape.j1 k1 a1 x5_1 x6_1 true l0_0)) else (spec_l17Shape.j1 k1 a1 x5_1 x6_1 true l0_0)) else (spec_l17Shape.j1 k1 a1 x5_1 x6_1 true l0_0))) else (spec_l17Shape.j1 k1 a1 x5_1 x6_1 true l0_0))) else (if (!(((rd_T93 l0_0 x6_1).f0) == (-1)) || (!(((rd_T93 l0_0 x6_1).f1) == 0) || (!(((rd_T93 l0_0 x6_1).f2) == 0) || (!(((rd_T93 l0_0 x6_1).f3) == 0))))) = true then (some false) else ((spec_l14Leaf.f ((rd_T93 l0_0 x6_1).f4)).bind fun t180 => (if t180 = true then (spec_l17Shape.l0 k1 a1 x5_1 (wrap64 (x6_1 + 1)) l0_0) else (some false))))) = some r := H
   have A6 := Aside0.mk A60
   clear A60
   have HZ7 := Aside0.mk H
   clear H
   have hcz8_0 : wr.cell? ⟨gb176, 0, none⟩ = some (.slice A0_0 l0_0.length c0_0) := (blk_cell BK176.out 0).trans rfl
   have hfz8_0 := blk_frozen BK176.out 0
   have p177 : 0 ≤ (x6_1 : Int) := of_decide_eq_true (g6)
   have q177 : x6_1 < (l0_0.length : Int) := of_decide_eq_true (g6)
   obtain ⟨ad177, e177, hx177_0, hx177_1, hx177_2, hx177_3, hx177_4⟩ := at_T93 HR0_0.out x6_1 p177 q177
   cases e177
   replace hx177_0 := (HB.out.cell (World.block_lt_of_cell? w _ hx177_0)).trans hx177_0
   replace hx177_1 := (HB.out.cell (World.block_lt_of_cell? w _ hx177_1)).trans hx177_1
   replace hx177_2 := (HB.out.cell (World.block_lt_of_cell? w _ hx177_2)).trans hx177_2
   replace hx177_3 := (HB.out.cell (World.block_lt_of_cell? w _ hx177_3)).trans hx177_3
   replace hx177_4 := (HB.out.cell (World.block_lt_of_cell? w _ hx177_4)).trans hx177_4
   replace p177 := eq_true p177
   replace q177 := eq_true q177
   go_upto_if 22 with (first | ((with_reducible refine gate_dst (N := 7) rfl ?_); refine box_event ?hg (N := 7) ?hd (cs := #[.int .i64 0, .int .i64 0, .int .i64 0, .int .i64 0, .int .i64 0]) (t := 93) ?hr ?_; (case hd => rfl); (case hg => rfl); (case hr => exact g10); intro gb178 hg w9 hbox hb; have n_ := spec_l17Shape.K7_ (blk_below (g := gb176) (o := .cells #[.slice (some ad177) l0_0.length c0_0] 68 (0, 0)) (g2 BK176.out) hb) (below_step (g12 HB.out GE176.out) hb) hbox ((g16 HB.out GE176.out : w.heap.size ≤ gb178)) ((g16 HB.out GE176.out : w.heap.size ≤ gb178)) ((by rw [hg]; exact Nat.ne_of_lt (blk_lt (g := gb176) (o := .cells #[.slice (some ad177) l0_0.length c0_0] 68 (0, 0)) (g2 BK176.out)) : gb176 ≠ gb178)) ((by rw [hg]; exact Nat.ne_of_gt (blk_lt (g := gb176) (o := .cells #[.slice (some ad177) l0_0.length c0_0] 68 (0, 0)) (g2 BK176.out)) : gb178 ≠ gb176)); clear BK176 HB; obtain ⟨BK176, HB, BK178, GW178, GE178, NB176_178, NB178_176⟩ := n_; clear hb hbox hg; have hnb10 := NB178_176.out; have hnc10 := NB176_178.out; have hcz11_0 : w9.cell? ⟨gb178, 0, none⟩ = some (.int .i64 0) := (blk_cell BK178.out 0).trans rfl; have hcz11_1 : w9.cell? ⟨gb178, 1, none⟩ = some (.int .i64 0) := (blk_cell BK178.out 1).trans rfl; have hcz11_2 : w9.cell? ⟨gb178, 2, none⟩ = some (.int .i64 0) := (blk_cell BK178.out 2).trans rfl; have hcz11_3 : w9.cell? ⟨gb178, 3, none⟩ = some (.int .i64 0) := (blk_cell BK178.out 3).trans rfl; have hcz11_4 : w9.cell? ⟨gb178, 4, none⟩ = some (.int .i64 0) := (blk_cell BK178.out 4).trans rfl; have hfz11_0 := blk_frozen BK178.out 0; have hfz11_1 := blk_frozen BK178.out 1; have hfz11_2 := blk_frozen BK178.out 2; have hfz11_3 := blk_frozen BK178.out 3; have hfz11_4 := blk_frozen BK178.out 4) | ((with_reducible refine gate_callee (f := 117) rfl ?_); refine goesL_ (some 21) rfl rfl Try.func117 (by kernel_rfl) rfl #[.agg #[.int .i64 ((rd_T93 l0_0 x6_1).f0), .int .i64 ((rd_T93 l0_0 x6_1).f1), .int .i64 ((rd_T93 l0_0 x6_1).f2), .int .i64 ((rd_T93 l0_0 x6_1).f3), .int .i64 ((rd_T93 l0_0 x6_1).f4)]] rfl (g9) ?_; (with_reducible refine (spec_l17Inner.calls ((rd_T93 l0_0 x6_1).f0) ((rd_T93 l0_0 x6_1).f1) ((rd_T93 l0_0 x6_1).f2) ((rd_T93 l0_0 x6_1).f3) ((rd_T93 l0_0 x6_1).f4) t179 _ A6.out).mono ?_); rintro e w12 ⟨rfl, hb⟩; refine ⟨_, rfl, ?_⟩; have n_ := spec_l17Shape.K3_ (blk_below (g := gb176) (o := .cells #[.slice (some ad177) l0_0.length c0_0] 68 (0, 0)) (g17 NB176_178.out BK176.out) hb) (blk_below (g := gb178) (o := .cells #[.int .i64 ((rd_T93 l0_0 x6_1).f0), .int .i64 ((rd_T93 l0_0 x6_1).f1), .int .i64 ((rd_T93 l0_0 x6_1).f2), .int .i64 ((rd_T93 l0_0 x6_1).f3), .int .i64 ((rd_T93 l0_0 x6_1).f4)] 93 (0, 0)) (by (with_reducible repeat (first | refine blk_drewN ?_ _ | refine blk_drew ?_ | refine blk_alloc ?_ _)); refine blk_put (cs := #[.int .i64 ((rd_T93 l0_0 x6_1).f0), .int .i64 ((rd_T93 l0_0 x6_1).f1), .int .i64 ((rd_T93 l0_0 x6_1).f2), .int .i64 ((rd_T93 l0_0 x6_1).f3), .int .i64 0]) ?_ 4 _ rfl; (with_reducible repeat (first | refine blk_drewN ?_ _ | refine blk_drew ?_ | refine blk_alloc ?_ _)); refine blk_put (cs := #[.int .i64 ((rd_T93 l0_0 x6_1).f0), .int .i64 ((rd_T93 l0_0 x6_1).f1), .int .i64 ((rd_T93 l0_0 x6_1).f2), .int .i64 0, .int .i64 0]) ?_ 3 _ rfl; (with_reducible repeat (first | refine blk_drewN ?_ _ | refine blk_drew ?_ | refine blk_alloc ?_ _)); refine blk_put (cs := #[.int .i64 ((rd_T93 l0_0 x6_1).f0), .int .i64 ((rd_T93 l0_0 x6_1).f1), .int .i64 0, .int .i64 0, .int .i64 0]) ?_ 2 _ rfl; (with_reducible repeat (first | refine blk_drewN ?_ _ | refine blk_drew ?_ | refine blk_alloc ?_ _)); refine blk_put (cs := #[.int .i64 ((rd_T93 l0_0 x6_1).f0), .int .i64 0, .int .i64 0, .int .i64 0, .int .i64 0]) ?_ 1 _ rfl; (with_reducible repeat (first | refine blk_drewN ?_ _ | refine blk_drew ?_ | refine blk_alloc ?_ _)); refine blk_put (cs := #[.int .i64 0, .int .i64 0, .int .i64 0, .int .i64 0, .int .i64 0]) ?_ 0 _ rfl; (with_reducible repeat (first | refine blk_drewN ?_ _ | refine blk_drew ?_ | refine blk_alloc ?_ _)); exact BK178.out) hb) (below_step (g18 HB.out GE176.out GE178.out) hb); clear BK176 BK178 HB; obtain ⟨BK176, BK178, HB⟩ := n_; (try clear hb); (try clear hb2); (try clear hk); (try clear hi)))
   (try simp only [Act.put, List.setIfInBounds_toArray, List.set_cons_zero, List.set_cons_succ])
   have H := HZ7.out
   clear HZ7
   by_cases c13 : t179 = true
   case neg =>
    replace c13 := Bool.eq_false_iff.mpr c13
    subst c13
    have H1 : (if (!(((rd_T93 l0_0 x6_1).f0) == (-1)) || (!(((rd_T93 l0_0 x6_1).f1) == 0) || (!(((rd_T93 l0_0 x6_1).f2) == 0) || (!(((rd_T93 l0_0 x6_1).f3) == 0))))) = true then (some false) else ((spec_l14Leaf.f ((rd_T93 l0_0 x6_1).f4)).bind fun t180 => (if t180 = true then (spec_l17Shape.l0 k1 a1 x5_1 (wrap64 (x6_1 + 1)) l0_0) else (some false)))) = some r := by rw [if_neg (show ¬ (false = true) by decide)] at H; exact H
    clear H
    have H := H1
    clear H1
    by_cases c35 : (!(((rd_T93 l0_0 x6_1).f0) == (-1)) || (!(((rd_T93 l0_0 x6_1).f1) == 0) || (!(((rd_T93 l0_0 x6_1).f2) == 0) || (!(((rd_T93 l0_0 x6_1).f3) == 0))))) = true
    case pos =>
     rw [if_pos c35] at H
     have c35b0 : (!(((rd_T93 l0_0 x6_1).f0) == (-1)) || (!(((rd_T93 l0_0 x6_1).f1) == 0) || (!(((rd_T93 l0_0 x6_1).f2) == 0) || (!(((rd_T93 l0_0 x6_1).f3) == 0))))) = true := c35
     clear c35
     obtain rfl := Option.some.inj H
     have hnb36 := NB178_176.out
     have hnc36 := NB176_178.out
     have hcz37_0 : w12.cell? ⟨gb178, 0, none⟩ = some (.int .i64 ((rd_T93 l0_0 x6_1).f0)) := (blk_cell BK178.out 0).trans rfl
     have hcz37_1 : w12.cell? ⟨gb178, 1, none⟩ = some (.int .i64 ((rd_T93 l0_0 x6_1).f1)) := (blk_cell BK178.out 1).trans rfl
     have hcz37_2 : w12.cell? ⟨gb178, 2, none⟩ = some (.int .i64 ((rd_T93 l0_0 x6_1).f2)) := (blk_cell BK178.out 2).trans rfl
     have hcz37_3 : w12.cell? ⟨gb178, 3, none⟩ = some (.int .i64 ((rd_T93 l0_0 x6_1).f3)) := (blk_cell BK178.out 3).trans rfl
     have hcz37_4 : w12.cell? ⟨gb178, 4, none⟩ = some (.int .i64 ((rd_T93 l0_0 x6_1).f4)) := (blk_cell BK178.out 4).trans rfl
     have hfz37_0 := blk_frozen BK178.out 0
     have hfz37_1 := blk_frozen BK178.out 1
     have hfz37_2 := blk_frozen BK178.out 2
     have hfz37_3 := blk_frozen BK178.out 3
     have hfz37_4 := blk_frozen BK178.out 4
     go_wp2
     go_ret
     exact ⟨g5, g18 HB.out GE176.out GE178.out⟩
    rw [if_neg c35] at H
    have c35b0 : (!(((rd_T93 l0_0 x6_1).f0) == (-1)) || (!(((rd_T93 l0_0 x6_1).f1) == 0) || (!(((rd_T93 l0_0 x6_1).f2) == 0) || (!(((rd_T93 l0_0 x6_1).f3) == 0))))) = false := by simpa using c35
    clear c35
    replace H := Option.bind_eq_some_iff.mp H
    obtain ⟨t180, A380, H⟩ := H
    replace H : (if t180 = true then (spec_l17Shape.l0 k1 a1 x5_1 (wrap64 (x6_1 + 1)) l0_0) else (some false)) = some r := H
    have A38 := Aside0.mk A380
    clear A380
    by_cases c39 : t180 = true
    case neg =>
     replace c39 := Bool.eq_false_iff.mpr c39
     subst c39
     have H1 : (some false) = some r := by rw [if_neg (show ¬ (false = true) by decide)] at H; exact H
     clear H
     have H := H1
     clear H1
     obtain rfl := Option.some.inj H
     have hnb42 := NB178_176.out
     have hnc42 := NB176_178.out
     have hcz43_0 : w12.cell? ⟨gb178, 0, none⟩ = some (.int .i64 ((rd_T93 l0_0 x6_1).f0)) := (blk_cell BK178.out 0).trans rfl
     have hcz43_1 : w12.cell? ⟨gb178, 1, none⟩ = some (.int .i64 ((rd_T93 l0_0 x6_1).f1)) := (blk_cell BK178.out 1).trans rfl
     have hcz43_2 : w12.cell? ⟨gb178, 2, none⟩ = some (.int .i64 ((rd_T93 l0_0 x6_1).f2)) := (blk_cell BK178.out 2).trans rfl
     have hcz43_3 : w12.cell? ⟨gb178, 3, none⟩ = some (.int .i64 ((rd_T93 l0_0 x6_1).f3)) := (blk_cell BK178.out 3).trans rfl
     have hcz43_4 : w12.cell? ⟨gb178, 4, none⟩ = some (.int .i64 ((rd_T93 l0_0 x6_1).f4)) := (blk_cell BK178.out 4).trans rfl
     have hfz43_0 := blk_frozen BK178.out 0
     have hfz43_1 := blk_frozen BK178.out 1
     have hfz43_2 := blk_frozen BK178.out 2
     have hfz43_3 := blk_frozen BK178.out 3
     have hfz43_4 := blk_frozen BK178.out 4
     go_wp2_with (first | (go_at_call 149; (with_reducible refine (spec_l14Leaf.calls ((rd_T93 l0_0 x6_1).f4) false _ A38.out).mono ?_); rintro e w' ⟨rfl, ⟨nd, rfl⟩⟩))
     go_ret
     exact ⟨g5, g18 HB.out GE176.out GE178.out⟩
    subst c39
    have H1 : (spec_l17Shape.l0 k1 a1 x5_1 (wrap64 (x6_1 + 1)) l0_0) = some r := by rw [if_pos rfl] at H; exact H
    clear H
    have H := H1
    clear H1
    have H' := Aside0.mk H
    clear H
    have hnb40 := NB178_176.out
    have hnc40 := NB176_178.out
    have hcz41_0 : w12.cell? ⟨gb178, 0, none⟩ = some (.int .i64 ((rd_T93 l0_0 x6_1).f0)) := (blk_cell BK178.out 0).trans rfl
    have hcz41_1 : w12.cell? ⟨gb178, 1, none⟩ = some (.int .i64 ((rd_T93 l0_0 x6_1).f1)) := (blk_cell BK178.out 1).trans rfl
    have hcz41_2 : w12.cell? ⟨gb178, 2, none⟩ = some (.int .i64 ((rd_T93 l0_0 x6_1).f2)) := (blk_cell BK178.out 2).trans rfl
    have hcz41_3 : w12.cell? ⟨gb178, 3, none⟩ = some (.int .i64 ((rd_T93 l0_0 x6_1).f3)) := (blk_cell BK178.out 3).trans rfl
    have hcz41_4 : w12.cell? ⟨gb178, 4, none⟩ = some (.int .i64 ((rd_T93 l0_0 x6_1).f4)) := (blk_cell BK178.out 4).trans rfl
    have hfz41_0 := blk_frozen BK178.out 0
    have hfz41_1 := blk_frozen BK178.out 1
    have hfz41_2 := blk_frozen BK178.out 2
    have hfz41_3 := blk_frozen BK178.out 3
    have hfz41_4 := blk_frozen BK178.out 4
    go_wp2_with (first | (go_at_call 149; (with_reducible refine (spec_l14Leaf.calls ((rd_T93 l0_0 x6_1).f4) true _ A38.out).mono ?_); rintro e w' ⟨rfl, ⟨nd, rfl⟩⟩))
    go_roundg k1
    case measure => have := HK1.out; omega
    case rel => exact ⟨(x5_1), (wrap64 (x6_1 + 1)), (g0), (g0), H', ⟨by have := HK1.out; omega⟩, ⟨g2 BK176.out⟩, ⟨g18 HB.out GE176.out GE178.out⟩⟩
   subst c13
   have H1 : ((spec_l1In.f ((rd_T93 l0_0 x6_1).f0) 0 (wrap64 (a1 - 1))).bind fun t181 => (if t181 = true then ((spec_l6Value.f ((rd_T93 l0_0 x6_1).f1)).bind fun t182 => (if t182 = true then (if ((rd_T93 l0_0 x6_1).f4) = 0 then (if ((rd_T93 l0_0 x6_1).f2) = x5_1 then (if ((rd_T93 l0_0 x6_1).f3) = (wrap64 (x5_1 + 1)) then (spec_l17Shape.j1 k1 a1 x5_1 x6_1 (decide (((rd_T93 l0_0 x6_1).f2) ≤ x6_1)) l0_0) else (spec_l17Shape.j1 k1 a1 x5_1 x6_1 true l0_0)) else (spec_l17Shape.j1 k1 a1 x5_1 x6_1 true l0_0)) else (spec_l17Shape.j1 k1 a1 x5_1 x6_1 true l0_0)) else (spec_l17Shape.j1 k1 a1 x5_1 x6_1 true l0_0))) else (spec_l17Shape.j1 k1 a1 x5_1 x6_1 true l0_0))) = some r := by rw [if_pos rfl] at H; exact H
   clear H
   have H := H1
   clear H1
   have HC14 := Aside0.mk H
   clear H
   go_upto_region 9 with (fail)
   go_cut [69] (fun v69 wc => ∃ (kq : Nat) (x69_13 : Bool), v69 = .bool x69_13 ∧ Aside0 (spec_l17Shape.j1 kq a1 x5_1 x6_1 x69_13 l0_0 = some r) ∧ Aside0 (kq ≤ k1) ∧ Aside0 (wc.heap[gb176]? = some (.cells #[(.slice (some ad177) l0_0.length c0_0)] 68 (0, 0))) ∧ Aside0 (wc.heap[gb178]? = some (.cells #[.int .i64 ((rd_T93 l0_0 x6_1).f0), .int .i64 ((rd_T93 l0_0 x6_1).f1), .int .i64 ((rd_T93 l0_0 x6_1).f2), .int .i64 ((rd_T93 l0_0 x6_1).f3), .int .i64 ((rd_T93 l0_0 x6_1).f4)] 93 (0, 0))) ∧ Aside0 (Below w.heap.size w wc))
   case first =>
    have H := HC14.out
    clear HC14
    replace H := Option.bind_eq_some_iff.mp H
    obtain ⟨t181, A150, H⟩ := H
    replace H : (if t181 = true then ((spec_l6Value.f ((rd_T93 l0_0 x6_1).f1)).bind fun t182 => (if t182 = true then (if ((rd_T93 l0_0 x6_1).f4) = 0 then (if ((rd_T93 l0_0 x6_1).f2) = x5_1 then (if ((rd_T93 l0_0 x6_1).f3) = (wrap64 (x5_1 + 1)) then (spec_l17Shape.j1 k1 a1 x5_1 x6_1 (decide (((rd_T93 l0_0 x6_1).f2) ≤ x6_1)) l0_0) else (spec_l17Shape.j1 k1 a1 x5_1 x6_1 true l0_0)) else (spec_l17Shape.j1 k1 a1 x5_1 x6_1 true l0_0)) else (spec_l17Shape.j1 k1 a1 x5_1 x6_1 true l0_0)) else (spec_l17Shape.j1 k1 a1 x5_1 x6_1 true l0_0))) else (spec_l17Shape.j1 k1 a1 x5_1 x6_1 true l0_0)) = some r := H
    have A15 := Aside0.mk A150
    clear A150
    by_cases c16 : t181 = true
    case neg =>
     replace c16 := Bool.eq_false_iff.mpr c16
     subst c16
     have H1 : (spec_l17Shape.j1 k1 a1 x5_1 x6_1 true l0_0) = some r := by rw [if_neg (show ¬ (false = true) by decide)] at H; exact H
     clear H
     have H := H1
     clear H1
     have H' := Aside0.mk H
     clear H
     have hnb32 := NB178_176.out
     have hnc32 := NB176_178.out
     have hcz33_0 : w12.cell? ⟨gb178, 0, none⟩ = some (.int .i64 ((rd_T93 l0_0 x6_1).f0)) := (blk_cell BK178.out 0).trans rfl
     have hcz33_1 : w12.cell? ⟨gb178, 1, none⟩ = some (.int .i64 ((rd_T93 l0_0 x6_1).f1)) := (blk_cell BK178.out 1).trans rfl
     have hcz33_2 : w12.cell? ⟨gb178, 2, none⟩ = some (.int .i64 ((rd_T93 l0_0 x6_1).f2)) := (blk_cell BK178.out 2).trans rfl
     have hcz33_3 : w12.cell? ⟨gb178, 3, none⟩ = some (.int .i64 ((rd_T93 l0_0 x6_1).f3)) := (blk_cell BK178.out 3).trans rfl
     have hcz33_4 : w12.cell? ⟨gb178, 4, none⟩ = some (.int .i64 ((rd_T93 l0_0 x6_1).f4)) := (blk_cell BK178.out 4).trans rfl
     have hfz33_0 := blk_frozen BK178.out 0
     have hfz33_1 := blk_frozen BK178.out 1
     have hfz33_2 := blk_frozen BK178.out 2
     have hfz33_3 := blk_frozen BK178.out 3
     have hfz33_4 := blk_frozen BK178.out 4
     go_wp2_with (first | ((with_reducible refine gate_callee (f := 54) rfl ?_); refine goesL_ (some 38) rfl rfl Try.func54 (by kernel_rfl) rfl #[.int .i64 ((rd_T93 l0_0 x6_1).f0), .int .i64 0, .int .i64 (wrap64 (a1 - 1))] rfl (g9) ?_; (with_reducible refine (spec_l1In.calls ((rd_T93 l0_0 x6_1).f0) 0 (wrap64 (a1 - 1)) false _ A15.out).mono ?_); rintro e w' ⟨rfl, ⟨nd, rfl⟩⟩; refine ⟨_, rfl, ?_⟩))
     go_meet
     case rel => exact ⟨_, (true), (g0), H', ⟨by have := HK1.out; first | omega | exact Nat.le_refl _⟩, ⟨g2 BK176.out⟩, ⟨g2 BK178.out⟩, ⟨g18 HB.out GE176.out GE178.out⟩⟩
    subst c16
    have H1 : ((spec_l6Value.f ((rd_T93 l0_0 x6_1).f1)).bind fun t182 => (if t182 = true then (if ((rd_T93 l0_0 x6_1).f4) = 0 then (if ((rd_T93 l0_0 x6_1).f2) = x5_1 then (if ((rd_T93 l0_0 x6_1).f3) = (wrap64 (x5_1 + 1)) then (spec_l17Shape.j1 k1 a1 x5_1 x6_1 (decide (((rd_T93 l0_0 x6_1).f2) ≤ x6_1)) l0_0) else (spec_l17Shape.j1 k1 a1 x5_1 x6_1 true l0_0)) else (spec_l17Shape.j1 k1 a1 x5_1 x6_1 true l0_0)) else (spec_l17Shape.j1 k1 a1 x5_1 x6_1 true l0_0)) else (spec_l17Shape.j1 k1 a1 x5_1 x6_1 true l0_0))) = some r := by rw [if_pos rfl] at H; exact H
    clear H
    have H := H1
    clear H1
    replace H := Option.bind_eq_some_iff.mp H
    obtain ⟨t182, A170, H⟩ := H
    replace H : (if t182 = true then (if ((rd_T93 l0_0 x6_1).f4) = 0 then (if ((rd_T93 l0_0 x6_1).f2) = x5_1 then (if ((rd_T93 l0_0 x6_1).f3) = (wrap64 (x5_1 + 1)) then (spec_l17Shape.j1 k1 a1 x5_1 x6_1 (decide (((rd_T93 l0_0 x6_1).f2) ≤ x6_1)) l0_0) else (spec_l17Shape.j1 k1 a1 x5_1 x6_1 true l0_0)) else (spec_l17Shape.j1 k1 a1 x5_1 x6_1 true l0_0)) else (spec_l17Shape.j1 k1 a1 x5_1 x6_1 true l0_0)) else (spec_l17Shape.j1 k1 a1 x5_1 x6_1 true l0_0)) = some r := H
    have A17 := Aside0.mk A170
    clear A170
    by_cases c18 : t182 = true
    case neg =>
     replace c18 := Bool.eq_false_iff.mpr c18
     subst c18
     have H1 : (spec_l17Shape.j1 k1 a1 x5_1 x6_1 true l0_0) = some r := by rw [if_neg (show ¬ (false = true) by decide)] at H; exact H
     clear H
     have H := H1
     clear H1
     have H' := Aside0.mk H
     clear H
     have hnb30 := NB178_176.out
     have hnc30 := NB176_178.out
     have hcz31_0 : w12.cell? ⟨gb178, 0, none⟩ = some (.int .i64 ((rd_T93 l0_0 x6_1).f0)) := (blk_cell BK178.out 0).trans rfl
     have hcz31_1 : w12.cell? ⟨gb178, 1, none⟩ = some (.int .i64 ((rd_T93 l0_0 x6_1).f1)) := (blk_cell BK178.out 1).trans rfl
     have hcz31_2 : w12.cell? ⟨gb178, 2, none⟩ = some (.int .i64 ((rd_T93 l0_0 x6_1).f2)) := (blk_cell BK178.out 2).trans rfl
     have hcz31_3 : w12.cell? ⟨gb178, 3, none⟩ = some (.int .i64 ((rd_T93 l0_0 x6_1).f3)) := (blk_cell BK178.out 3).trans rfl
     have hcz31_4 : w12.cell? ⟨gb178, 4, none⟩ = some (.int .i64 ((rd_T93 l0_0 x6_1).f4)) := (blk_cell BK178.out 4).trans rfl
     have hfz31_0 := blk_frozen BK178.out 0
     have hfz31_1 := blk_frozen BK178.out 1
     have hfz31_2 := blk_frozen BK178.out 2
     have hfz31_3 := blk_frozen BK178.out 3
     have hfz31_4 := blk_frozen BK178.out 4
     go_wp2_with (first | ((with_reducible refine gate_callee (f := 54) rfl ?_); refine goesL_ (some 38) rfl rfl Try.func54 (by kernel_rfl) rfl #[.int .i64 ((rd_T93 l0_0 x6_1).f0), .int .i64 0, .int .i64 (wrap64 (a1 - 1))] rfl (g9) ?_; (with_reducible refine (spec_l1In.calls ((rd_T93 l0_0 x6_1).f0) 0 (wrap64 (a1 - 1)) true _ A15.out).mono ?_); rintro e w' ⟨rfl, ⟨nd, rfl⟩⟩; refine ⟨_, rfl, ?_⟩) | (go_at_call 85; (with_reducible refine (spec_l6Value.calls ((rd_T93 l0_0 x6_1).f1) false _ A17.out).mono ?_); rintro e w' ⟨rfl, ⟨nd, rfl⟩⟩))
     go_meet
     case rel => exact ⟨_, (true), (g0), H', ⟨by have := HK1.out; first | omega | exact Nat.le_refl _⟩, ⟨g2 BK176.out⟩, ⟨g2 BK178.out⟩, ⟨g18 HB.out GE176.out GE178.out⟩⟩
    subst c18
    have H1 : (if ((rd_T93 l0_0 x6_1).f4) = 0 then (if ((rd_T93 l0_0 x6_1).f2) = x5_1 then (if ((rd_T93 l0_0 x6_1).f3) = (wrap64 (x5_1 + 1)) then (spec_l17Shape.j1 k1 a1 x5_1 x6_1 (decide (((rd_T93 l0_0 x6_1).f2) ≤ x6_1)) l0_0) else (spec_l17Shape.j1 k1 a1 x5_1 x6_1 true l0_0)) else (spec_l17Shape.j1 k1 a1 x5_1 x6_1 true l0_0)) else (spec_l17Shape.j1 k1 a1 x5_1 x6_1 true l0_0)) = some r := by rw [if_pos rfl] at H; exact H
    clear H
    have H := H1
    clear H1
    by_cases c19 : ((rd_T93 l0_0 x6_1).f4) = 0
    case neg =>
     rw [if_neg c19] at H
     have c19b0 : (((rd_T93 l0_0 x6_1).f4) == 0) = false := beq_eq_false_iff_ne.mpr c19
     have c19b1 : (((rd_T93 l0_0 x6_1).f4) != 0) = true := bne_iff_ne.mpr c19
     (first | rw [c19b0] | (simp only [i64_w, i32_w]; rw [c19b0]) | skip)
     have H' := Aside0.mk H
     clear H
     have hnb28 := NB178_176.out
     have hnc28 := NB176_178.out
     have hcz29_0 : w12.cell? ⟨gb178, 0, none⟩ = some (.int .i64 ((rd_T93 l0_0 x6_1).f0)) := (blk_cell BK178.out 0).trans rfl
     have hcz29_1 : w12.cell? ⟨gb178, 1, none⟩ = some (.int .i64 ((rd_T93 l0_0 x6_1).f1)) := (blk_cell BK178.out 1).trans rfl
     have hcz29_2 : w12.cell? ⟨gb178, 2, none⟩ = some (.int .i64 ((rd_T93 l0_0 x6_1).f2)) := (blk_cell BK178.out 2).trans rfl
     have hcz29_3 : w12.cell? ⟨gb178, 3, none⟩ = some (.int .i64 ((rd_T93 l0_0 x6_1).f3)) := (blk_cell BK178.out 3).trans rfl
     have hcz29_4 : w12.cell? ⟨gb178, 4, none⟩ = some (.int .i64 ((rd_T93 l0_0 x6_1).f4)) := (blk_cell BK178.out 4).trans rfl
     have hfz29_0 := blk_frozen BK178.out 0
     have hfz29_1 := blk_frozen BK178.out 1
     have hfz29_2 := blk_frozen BK178.out 2
     have hfz29_3 := blk_frozen BK178.out 3
     have hfz29_4 := blk_frozen BK178.out 4
     go_wp2_with (first | ((with_reducible refine gate_callee (f := 54) rfl ?_); refine goesL_ (some 38) rfl rfl Try.func54 (by kernel_rfl) rfl #[.int .i64 ((rd_T93 l0_0 x6_1).f0), .int .i64 0, .int .i64 (wrap64 (a1 - 1))] rfl (g9) ?_; (with_reducible refine (spec_l1In.calls ((rd_T93 l0_0 x6_1).f0) 0 (wrap64 (a1 - 1)) true _ A15.out).mono ?_); rintro e w' ⟨rfl, ⟨nd, rfl⟩⟩; refine ⟨_, rfl, ?_⟩) | (go_at_call 85; (with_reducible refine (spec_l6Value.calls ((rd_T93 l0_0 x6_1).f1) true _ A17.out).mono ?_); rintro e w' ⟨rfl, ⟨nd, rfl⟩⟩))
     go_meet
     case rel => exact ⟨_, (true), (g0), H', ⟨by have := HK1.out; first | omega | exact Nat.le_refl _⟩, ⟨g2 BK176.out⟩, ⟨g2 BK178.out⟩, ⟨g18 HB.out GE176.out GE178.out⟩⟩
    rw [if_pos c19] at H
    have c19b0 : (((rd_T93 l0_0 x6_1).f4) == 0) = true := beq_iff_eq.mpr c19
    have c19b1 : (((rd_T93 l0_0 x6_1).f4) != 0) = false := bne_eq_false_iff_eq.mpr c19
    clear c19
    (first | rw [c19b0] | (simp only [i64_w, i32_w]; rw [c19b0]) | skip)
    by_cases c20 : ((rd_T93 l0_0 x6_1).f2) = x5_1
    case neg =>
     rw [if_neg c20] at H
     have c20b0 : (((rd_T93 l0_0 x6_1).f2) == x5_1) = false := beq_eq_false_iff_ne.mpr c20
     have c20b1 : (((rd_T93 l0_0 x6_1).f2) != x5_1) = true := bne_iff_ne.mpr c20
     have H' := Aside0.mk H
     clear H
     have hnb26 := NB178_176.out
     have hnc26 := NB176_178.out
     have hcz27_0 : w12.cell? ⟨gb178, 0, none⟩ = some (.int .i64 ((rd_T93 l0_0 x6_1).f0)) := (blk_cell BK178.out 0).trans rfl
     have hcz27_1 : w12.cell? ⟨gb178, 1, none⟩ = some (.int .i64 ((rd_T93 l0_0 x6_1).f1)) := (blk_cell BK178.out 1).trans rfl
     have hcz27_2 : w12.cell? ⟨gb178, 2, none⟩ = some (.int .i64 ((rd_T93 l0_0 x6_1).f2)) := (blk_cell BK178.out 2).trans rfl
     have hcz27_3 : w12.cell? ⟨gb178, 3, none⟩ = some (.int .i64 ((rd_T93 l0_0 x6_1).f3)) := (blk_cell BK178.out 3).trans rfl
     have hcz27_4 : w12.cell? ⟨gb178, 4, none⟩ = some (.int .i64 ((rd_T93 l0_0 x6_1).f4)) := (blk_cell BK178.out 4).trans rfl
     have hfz27_0 := blk_frozen BK178.out 0
     have hfz27_1 := blk_frozen BK178.out 1
     have hfz27_2 := blk_frozen BK178.out 2
     have hfz27_3 := blk_frozen BK178.out 3
     have hfz27_4 := blk_frozen BK178.out 4
     go_wp2_with (first | ((with_reducible refine gate_callee (f := 54) rfl ?_); refine goesL_ (some 38) rfl rfl Try.func54 (by kernel_rfl) rfl #[.int .i64 ((rd_T93 l0_0 x6_1).f0), .int .i64 0, .int .i64 (wrap64 (a1 - 1))] rfl (g9) ?_; (with_reducible refine (spec_l1In.calls ((rd_T93 l0_0 x6_1).f0) 0 (wrap64 (a1 - 1)) true _ A15.out).mono ?_); rintro e w' ⟨rfl, ⟨nd, rfl⟩⟩; refine ⟨_, rfl, ?_⟩) | (go_at_call 85; (with_reducible refine (spec_l6Value.calls ((rd_T93 l0_0 x6_1).f1) true _ A17.out).mono ?_); rintro e w' ⟨rfl, ⟨nd, rfl⟩⟩))
     go_meet
     case rel => exact ⟨_, (true), (g0), H', ⟨by have := HK1.out; first | omega | exact Nat.le_refl _⟩, ⟨g2 BK176.out⟩, ⟨g2 BK178.out⟩, ⟨g18 HB.out GE176.out GE178.out⟩⟩
    rw [if_pos c20] at H
    have c20b0 : (((rd_T93 l0_0 x6_1).f2) == x5_1) = true := beq_iff_eq.mpr c20
    have c20b1 : (((rd_T93 l0_0 x6_1).f2) != x5_1) = false := bne_eq_false_iff_eq.mpr c20
    clear c20
    by_cases c21 : ((rd_T93 l0_0 x6_1).f3) = (wrap64 (x5_1 + 1))
    case neg =>
     rw [if_neg c21] at H
     have c21b0 : (((rd_T93 l0_0 x6_1).f3) == (wrap64 (x5_1 + 1))) = false := beq_eq_false_iff_ne.mpr c21
     have c21b1 : (((rd_T93 l0_0 x6_1).f3) != (wrap64 (x5_1 + 1))) = true := bne_iff_ne.mpr c21
     have H' := Aside0.mk H
     clear H
     have hnb24 := NB178_176.out
     have hnc24 := NB176_178.out
     have hcz25_0 : w12.cell? ⟨gb178, 0, none⟩ = some (.int .i64 ((rd_T93 l0_0 x6_1).f0)) := (blk_cell BK178.out 0).trans rfl
     have hcz25_1 : w12.cell? ⟨gb178, 1, none⟩ = some (.int .i64 ((rd_T93 l0_0 x6_1).f1)) := (blk_cell BK178.out 1).trans rfl
     have hcz25_2 : w12.cell? ⟨gb178, 2, none⟩ = some (.int .i64 ((rd_T93 l0_0 x6_1).f2)) := (blk_cell BK178.out 2).trans rfl
     have hcz25_3 : w12.cell? ⟨gb178, 3, none⟩ = some (.int .i64 ((rd_T93 l0_0 x6_1).f3)) := (blk_cell BK178.out 3).trans rfl
     have hcz25_4 : w12.cell? ⟨gb178, 4, none⟩ = some (.int .i64 ((rd_T93 l0_0 x6_1).f4)) := (blk_cell BK178.out 4).trans rfl
     have hfz25_0 := blk_frozen BK178.out 0
     have hfz25_1 := blk_frozen BK178.out 1
     have hfz25_2 := blk_frozen BK178.out 2
     have hfz25_3 := blk_frozen BK178.out 3
     have hfz25_4 := blk_frozen BK178.out 4
     go_wp2_with (first | ((with_reducible refine gate_callee (f := 54) rfl ?_); refine goesL_ (some 38) rfl rfl Try.func54 (by kernel_rfl) rfl #[.int .i64 ((rd_T93 l0_0 x6_1).f0), .int .i64 0, .int .i64 (wrap64 (a1 - 1))] rfl (g9) ?_; (with_reducible refine (spec_l1In.calls ((rd_T93 l0_0 x6_1).f0) 0 (wrap64 (a1 - 1)) true _ A15.out).mono ?_); rintro e w' ⟨rfl, ⟨nd, rfl⟩⟩; refine ⟨_, rfl, ?_⟩) | (go_at_call 85; (with_reducible refine (spec_l6Value.calls ((rd_T93 l0_0 x6_1).f1) true _ A17.out).mono ?_); rintro e w' ⟨rfl, ⟨nd, rfl⟩⟩))
     go_meet
     case rel => exact ⟨_, (true), (g0), H', ⟨by have := HK1.out; first | omega | exact Nat.le_refl _⟩, ⟨g2 BK176.out⟩, ⟨g2 BK178.out⟩, ⟨g18 HB.out GE176.out GE178.out⟩⟩
    rw [if_pos c21] at H
    have c21b0 : (((rd_T93 l0_0 x6_1).f3) == (wrap64 (x5_1 + 1))) = true := beq_iff_eq.mpr c21
    have c21b1 : (((rd_T93 l0_0 x6_1).f3) != (wrap64 (x5_1 + 1))) = false := bne_eq_false_iff_eq.mpr c21
    clear c21
    have H' := Aside0.mk H
    clear H
    have hnb22 := NB178_176.out
    have hnc22 := NB176_178.out
    have hcz23_0 : w12.cell? ⟨gb178, 0, none⟩ = some (.int .i64 ((rd_T93 l0_0 x6_1).f0)) := (blk_cell BK178.out 0).trans rfl
    have hcz23_1 : w12.cell? ⟨gb178, 1, none⟩ = some (.int .i64 ((rd_T93 l0_0 x6_1).f1)) := (blk_cell BK178.out 1).trans rfl
    have hcz23_2 : w12.cell? ⟨gb178, 2, none⟩ = some (.int .i64 ((rd_T93 l0_0 x6_1).f2)) := (blk_cell BK178.out 2).trans rfl
    have hcz23_3 : w12.cell? ⟨gb178, 3, none⟩ = some (.int .i64 ((rd_T93 l0_0 x6_1).f3)) := (blk_cell BK178.out 3).trans rfl
    have hcz23_4 : w12.cell? ⟨gb178, 4, none⟩ = some (.int .i64 ((rd_T93 l0_0 x6_1).f4)) := (blk_cell BK178.out 4).trans rfl
    have hfz23_0 := blk_frozen BK178.out 0
    have hfz23_1 := blk_frozen BK178.out 1
    have hfz23_2 := blk_frozen BK178.out 2
    have hfz23_3 := blk_frozen BK178.out 3
    have hfz23_4 := blk_frozen BK178.out 4
    go_wp2_with (first | ((with_reducible refine gate_callee (f := 54) rfl ?_); refine goesL_ (some 38) rfl rfl Try.func54 (by kernel_rfl) rfl #[.int .i64 ((rd_T93 l0_0 x6_1).f0), .int .i64 0, .int .i64 (wrap64 (a1 - 1))] rfl (g9) ?_; (with_reducible refine (spec_l1In.calls ((rd_T93 l0_0 x6_1).f0) 0 (wrap64 (a1 - 1)) true _ A15.out).mono ?_); rintro e w' ⟨rfl, ⟨nd, rfl⟩⟩; refine ⟨_, rfl, ?_⟩) | (go_at_call 85; (with_reducible refine (spec_l6Value.calls ((rd_T93 l0_0 x6_1).f1) true _ A17.out).mono ?_); rintro e w' ⟨rfl, ⟨nd, rfl⟩⟩))
    go_meet
    case rel => exact ⟨_, (decide (((rd_T93 l0_0 x6_1).f2) ≤ x6_1)), (g0), H', ⟨by have := HK1.out; first | omega | exact Nat.le_refl _⟩, ⟨g2 BK176.out⟩, ⟨g2 BK178.out⟩, ⟨g18 HB.out GE176.out GE178.out⟩⟩
   case rest =>
    clear HC14
    try clear c1
    try clear p1
    try clear q1
    try clear hx1
    try clear c2
    try clear p2
    try clear c3
    try clear c4
    try clear c4b0
    try clear c5
    try clear c5b0
    try clear p6
    try clear c10
    try clear c11
    try clear c12
    try clear c13
    try clear c16
    try clear p17
    try clear q17
    try clear hx17
    try clear c18
    try clear c19
    try clear c19b0
    try clear c19b1
    try clear c20
    try clear c20b0
    try clear c20b1
    try clear c21
    try clear c21b0
    try clear c21b1
    try clear c22
    try clear c24
    try clear c26
    try clear c28
    try clear c30
    try clear c32
    try clear hcz11_0
    try clear hcz11_1
    try clear hcz11_2
    try clear hcz11_3
    try clear hcz11_4
    try clear hcz23_0
    try clear hcz23_1
    try clear hcz23_2
    try clear hcz23_3
    try clear hcz23_4
    try clear hcz25_0
    try clear hcz25_1
    try clear hcz25_2
    try clear hcz25_3
    try clear hcz25_4
    try clear hcz27_0
    try clear hcz27_1
    try clear hcz27_2
    try clear hcz27_3
    try clear hcz27_4
    try clear hcz29_0
    try clear hcz29_1
    try clear hcz29_2
    try clear hcz29_3
    try clear hcz29_4
    try clear hcz31_0
    try clear hcz31_1
    try clear hcz31_2
    try clear hcz31_3
    try clear hcz31_4
    try clear hcz33_0
    try clear hcz33_1
    try clear hcz33_2
    try clear hcz33_3
    try clear hcz33_4
    try clear hcz8_0
    try clear hfz11_0
    try clear hfz11_1
    try clear hfz11_2
    try clear hfz11_3
    try clear hfz11_4
    try clear hfz23_0
    try clear hfz23_1
    try clear hfz23_2
    try clear hfz23_3
    try clear hfz23_4
    try clear hfz25_0
    try clear hfz25_1
    try clear hfz25_2
    try clear hfz25_3
    try clear hfz25_4
    try clear hfz27_0
    try clear hfz27_1
    try clear hfz27_2
    try clear hfz27_3
    try clear hfz27_4
    try clear hfz29_0
    try clear hfz29_1
    try clear hfz29_2
    try clear hfz29_3
    try clear hfz29_4
    try clear hfz31_0
    try clear hfz31_1
    try clear hfz31_2
    try clear hfz31_3
    try clear hfz31_4
    try clear hfz33_0
    try clear hfz33_1
    try clear hfz33_2
    try clear hfz33_3
    try clear hfz33_4
    try clear hfz8_0
    try clear hx177_0
    try clear hx177_1
    try clear hx177_2
    try clear hx177_3
    try clear hx177_4
    try clear p177
    try clear p2
    try clear q177
    obtain ⟨kq, x69_13, rfl, HA, HJ13, BK176, BK178, HB⟩ := hcut
    cases kq with
    | zero => exact absurd HA.out (by simp [spec_l17Shape.j1])
    | succ kj13 =>
     have H := HA.out
     clear HA
     simp only [spec_l17Shape.j1] at H
     by_cases c34 : x69_13 = true
     case pos =>
      subst c34
      have H1 : (some false) = some r := by rw [if_pos rfl] at H; exact H
      clear H
      have H := H1
      clear H1
      obtain rfl := Option.some.inj H
      go_wp2
      go_ret
      exact ⟨g5, g18 HB.out GE176.out GE178.out⟩
     replace c34 := Bool.eq_false_iff.mpr c34
     subst c34
     have H1 : (spec_l17Shape.l0 kj13 a1 (wrap64 (x5_1 + 2)) (wrap64 (x6_1 + 1)) l0_0) = some r := by rw [if_neg (show ¬ (false = true) by decide)] at H; exact H
     clear H
     have H := H1
     clear H1
     have H' := Aside0.mk H
     clear H
     go_wp2
     go_roundg kj13
     case measure => have := HK1.out; have := HJ13.out; omega
     case rel => exact ⟨(wrap64 (x5_1 + 2)), (wrap64 (x6_1 + 1)), (g0), (g0), H', ⟨by have := HK1.out; have := HJ13.out; omega⟩, ⟨g2 BK176.out⟩, ⟨g18 HB.out GE176.out GE178.out⟩⟩
def spec_l17Up.l0 : Nat → Int → Int → List (S93) → Option (Int)
  | 0, _, _, _ => none
  | k + 1, x1, x5, x184000 => if x5 < (x184000.length : Int) then (if 0 ≤ x5 then ((spec_l17Inner.f ((rd_T93 x184000 x5).f0) ((rd_T93 x184000 x5).f1) ((rd_T93 x184000 x5).f2) ((rd_T93 x184000 x5).f3) ((rd_T93 x184000 x5).f4)).bind fun t185 => (if t185 = true then (if ((rd_T93 x184000 x5).f2) = x1 then (some x5) else (if ((rd_T93 x184000 x5).f3) = x1 then (some x5) else (spec_l17Up.l0 k x1 (wrap64 (x5 + 1)) x184000))) else (spec_l17Up.l0 k x1 (wrap64 (x5 + 1)) x184000))) else (none)) else (some (-1))
def spec_l17Up.f (k : Nat) (l0_0 : List (S93)) (a1 : Int) : Option (Int) := spec_l17Up.l0 k a1 0 l0_0
set_option maxHeartbeats 8000000 in
set_option maxRecDepth 100000 in
theorem spec_l17Up.calls (k : Nat) (A0_0 : Option Addr) (c0_0 : Nat) (l0_0 : List (S93)) (a1 : Int) (r : Int) (w : World) (hr0_0 : Kd.C k93 w A0_0 l0_0.length l0_0) (hc0_0 : l0_0.length ≤ c0_0) (h : spec_l17Up.f k l0_0 a1 = some r) :
    Calls Try.prog 152 #[.agg #[.slice A0_0 l0_0.length c0_0], .int .i64 a1] w fun e w' => e = .returned (.int .i64 r) ∧ Below w.heap.size w w' := by
 have hu68 := Try.underlying68
 have hu93 := Try.underlying93
 have HR0_0 := Aside0.mk hr0_0
 have HC0_0 := Aside0.mk hc0_0
 clear hr0_0 hc0_0
 have HB := Aside0.mk (Below.refl w.heap.size w)
 have H : (spec_l17Up.l0 k a1 0 l0_0) = some r := h
 clear h
 have H' := Aside0.mk H
 clear H
 go_enter Try.func152, Try.ntmps152
 go_wp2_with (first | ((with_reducible refine gate_dst (N := 2) rfl ?_); refine box_event ?hg (N := 2) ?hd (cs := #[.slice A0_0 l0_0.length c0_0]) (t := 68) ?hr ?_; (case hd => rfl); (case hg => rfl); (case hr => exact g10); intro gb183 hg w3 hbox hb; have n_ := spec_l17Shape.K4_ (below_step (g4 HB.out) hb) hbox ((g11 HB.out : w.heap.size ≤ gb183)) ((g11 HB.out : w.heap.size ≤ gb183)); clear HB; obtain ⟨HB, BK183, GW183, GE183⟩ := n_; clear hb hbox hg))
 go_loopg [5] k (fun kq v5 w' => ∃ (x5_1 : Int), v5 = .int .i64 x5_1 ∧ Aside0 (spec_l17Up.l0 kq a1 x5_1 l0_0 = some r) ∧ Aside0 (kq ≤ k) ∧ Aside0 (w'.heap[gb183]? = some (.cells #[(.slice A0_0 l0_0.length c0_0)] 68 (0, 0))) ∧ Aside0 (Below w.heap.size w w'))
 case atStart => exact ⟨(0), (g0), H', ⟨Nat.le_refl _⟩, ⟨g2 BK183.out⟩, ⟨g12 HB.out GE183.out⟩⟩
 case round =>
  clear H'
  try clear c1
  try clear p2
  obtain ⟨x5_1, rfl, HA, HK1, BK183, HB⟩ := hrel
  cases gk with
  | zero => exact absurd HA.out (by simp [spec_l17Up.l0])
  | succ k1 =>
   have H := HA.out
   clear HA
   simp only [spec_l17Up.l0] at H
   by_cases c4 : x5_1 < (l0_0.length : Int)
   case neg =>
    rw [if_neg c4] at H
    have c4b0 : decide (x5_1 < (l0_0.length : Int)) = false := decide_eq_false c4
    clear c4
    obtain rfl := Option.some.inj H
    have hcz21_0 : wr.cell? ⟨gb183, 0, none⟩ = some (.slice A0_0 l0_0.length c0_0) := (blk_cell BK183.out 0).trans rfl
    have hfz21_0 := blk_frozen BK183.out 0
    go_wp2
    go_ret
    exact ⟨g5, g12 HB.out GE183.out⟩
   rw [if_pos c4] at H
   have c4b0 : decide (x5_1 < (l0_0.length : Int)) = true := decide_eq_true c4
   clear c4
   by_cases c5 : 0 ≤ x5_1
   case neg =>
    rw [if_neg c5] at H
    exact absurd H (by simp)
   rw [if_pos c5] at H
   have c5b0 : decide (0 ≤ x5_1) = true := decide_eq_true c5
   clear c5
   replace H := Option.bind_eq_some_iff.mp H
   obtain ⟨t185, A60, H⟩ := H
   replace H : (if t185 = true then (if ((rd_T93 l0_0 x5_1).f2) = a1 then (some x5_1) else (if ((rd_T93 l0_0 x5_1).f3) = a1 then (some x5_1) else (spec_l17Up.l0 k1 a1 (wrap64 (x5_1 + 1)) l0_0))) else (spec_l17Up.l0 k1 a1 (wrap64 (x5_1 + 1)) l0_0)) = some r := H
   have A6 := Aside0.mk A60
   clear A60
   by_cases c7 : t185 = true
   case neg =>
    replace c7 := Bool.eq_false_iff.mpr c7
    subst c7
    have H1 : (spec_l17Up.l0 k1 a1 (wrap64 (x5_1 + 1)) l0_0) = some r := by rw [if_neg (show ¬ (false = true) by decide)] at H; exact H
    clear H
    have H := H1
    clear H1
    have H' := Aside0.mk H
    clear H
    have hcz19_0 : wr.cell? ⟨gb183, 0, none⟩ = some (.slice A0_0 l0_0.length c0_0) := (blk_cell BK183.out 0).trans rfl
    have hfz19_0 := blk_frozen BK183.out 0
    have p184 : 0 ≤ (x5_1 : Int) := of_decide_eq_true (g6)
    have q184 : x5_1 < (l0_0.length : Int) := of_decide_eq_true (g6)
    obtain ⟨ad184, e184, hx184_0, hx184_1, hx184_2, hx184_3, hx184_4⟩ := at_T93 HR0_0.out x5_1 p184 q184
    cases e184
    replace hx184_0 := (HB.out.cell (World.block_lt_of_cell? w _ hx184_0)).trans hx184_0
    replace hx184_1 := (HB.out.cell (World.block_lt_of_cell? w _ hx184_1)).trans hx184_1
    replace hx184_2 := (HB.out.cell (World.block_lt_of_cell? w _ hx184_2)).trans hx184_2
    replace hx184_3 := (HB.out.cell (World.block_lt_of_cell? w _ hx184_3)).trans hx184_3
    replace hx184_4 := (HB.out.cell (World.block_lt_of_cell? w _ hx184_4)).trans hx184_4
    replace p184 := eq_true p184
    replace q184 := eq_true q184
    go_wp2_with (first | ((with_reducible refine gate_callee (f := 117) rfl ?_); refine goesL_ (some 18) rfl rfl Try.func117 (by kernel_rfl) rfl #[.agg #[.int .i64 ((rd_T93 l0_0 x5_1).f0), .int .i64 ((rd_T93 l0_0 x5_1).f1), .int .i64 ((rd_T93 l0_0 x5_1).f2), .int .i64 ((rd_T93 l0_0 x5_1).f3), .int .i64 ((rd_T93 l0_0 x5_1).f4)]] rfl (g9) ?_; (with_reducible refine (spec_l17Inner.calls ((rd_T93 l0_0 x5_1).f0) ((rd_T93 l0_0 x5_1).f1) ((rd_T93 l0_0 x5_1).f2) ((rd_T93 l0_0 x5_1).f3) ((rd_T93 l0_0 x5_1).f4) false _ A6.out).mono ?_); rintro e w20 ⟨rfl, hb⟩; refine ⟨_, rfl, ?_⟩; have n_ := spec_l17Shape.K2_ (blk_below (g := gb183) (o := .cells #[.slice (some ad184) l0_0.length c0_0] 68 (0, 0)) (g2 BK183.out) hb) (below_step (g12 HB.out GE183.out) hb); clear BK183 HB; obtain ⟨BK183, HB⟩ := n_; (try clear hb); (try clear hb2); (try clear hk); (try clear hi)))
    go_roundg k1
    case measure => have := HK1.out; omega
    case rel => exact ⟨(wrap64 (x5_1 + 1)), (g0), H', ⟨by have := HK1.out; omega⟩, ⟨g2 BK183.out⟩, ⟨g12 HB.out GE183.out⟩⟩
   subst c7
   have H1 : (if ((rd_T93 l0_0 x5_1).f2) = a1 then (some x5_1) else (if ((rd_T93 l0_0 x5_1).f3) = a1 then (some x5_1) else (spec_l17Up.l0 k1 a1 (wrap64 (x5_1 + 1)) l0_0))) = some r := by rw [if_pos rfl] at H; exact H
   clear H
   have H := H1
   clear H1
   by_cases c8 : ((rd_T93 l0_0 x5_1).f2) = a1
   case pos =>
    rw [if_pos c8] at H
    have c8b0 : (((rd_T93 l0_0 x5_1).f2) == a1) = true := beq_iff_eq.mpr c8
    have c8b1 : (((rd_T93 l0_0 x5_1).f2) != a1) = false := bne_eq_false_iff_eq.mpr c8
    clear c8
    obtain rfl := Option.some.inj H
    have hcz9_0 : wr.cell? ⟨gb183, 0, none⟩ = some (.slice A0_0 l0_0.length c0_0) := (blk_cell BK183.out 0).trans rfl
    have hfz9_0 := blk_frozen BK183.out 0
    have p184 : 0 ≤ (x5_1 : Int) := of_decide_eq_true (g6)
    have q184 : x5_1 < (l0_0.length : Int) := of_decide_eq_true (g6)
    obtain ⟨ad184, e184, hx184_0, hx184_1, hx184_2, hx184_3, hx184_4⟩ := at_T93 HR0_0.out x5_1 p184 q184
    cases e184
    replace hx184_0 := (HB.out.cell (World.block_lt_of_cell? w _ hx184_0)).trans hx184_0
    replace hx184_1 := (HB.out.cell (World.block_lt_of_cell? w _ hx184_1)).trans hx184_1
    replace hx184_2 := (HB.out.cell (World.block_lt_of_cell? w _ hx184_2)).trans hx184_2
    replace hx184_3 := (HB.out.cell (World.block_lt_of_cell? w _ hx184_3)).trans hx184_3
    replace hx184_4 := (HB.out.cell (World.block_lt_of_cell? w _ hx184_4)).trans hx184_4
    replace p184 := eq_true p184
    replace q184 := eq_true q184
    go_wp2_with (first | ((with_reducible refine gate_callee (f := 117) rfl ?_); refine goesL_ (some 18) rfl rfl Try.func117 (by kernel_rfl) rfl #[.agg #[.int .i64 ((rd_T93 l0_0 x5_1).f0), .int .i64 ((rd_T93 l0_0 x5_1).f1), .int .i64 ((rd_T93 l0_0 x5_1).f2), .int .i64 ((rd_T93 l0_0 x5_1).f3), .int .i64 ((rd_T93 l0_0 x5_1).f4)]] rfl (g9) ?_; (with_reducible refine (spec_l17Inner.calls ((rd_T93 l0_0 x5_1).f0) ((rd_T93 l0_0 x5_1).f1) ((rd_T93 l0_0 x5_1).f2) ((rd_T93 l0_0 x5_1).f3) ((rd_T93 l0_0 x5_1).f4) true _ A6.out).mono ?_); rintro e w10 ⟨rfl, hb⟩; refine ⟨_, rfl, ?_⟩; have n_ := spec_l17Shape.K2_ (blk_below (g := gb183) (o := .cells #[.slice (some ad184) l0_0.length c0_0] 68 (0, 0)) (g2 BK183.out) hb) (below_step (g12 HB.out GE183.out) hb); clear BK183 HB; obtain ⟨BK183, HB⟩ := n_; (try clear hb); (try clear hb2); (try clear hk); (try clear hi); have hcz11_0 : w10.cell? ⟨gb183, 0, none⟩ = some (.slice (some ad184) l0_0.length c0_0) := (blk_cell BK183.out 0).trans rfl; have hfz11_0 := blk_frozen BK183.out 0; have p186 : 0 ≤ (x5_1 : Int) := of_decide_eq_true (g6); have q186 : x5_1 < (l0_0.length : Int) := of_decide_eq_true (g6); obtain ⟨ad186, e186, hx186_0, hx186_1, hx186_2, hx186_3, hx186_4⟩ := at_T93 HR0_0.out x5_1 p186 q186; obtain rfl : ad184 = ad186 := (by injection e186); replace hx186_0 := (HB.out.cell (World.block_lt_of_cell? w _ hx186_0)).trans hx186_0; replace hx186_1 := (HB.out.cell (World.block_lt_of_cell? w _ hx186_1)).trans hx186_1; replace hx186_2 := (HB.out.cell (World.block_lt_of_cell? w _ hx186_2)).trans hx186_2; replace hx186_3 := (HB.out.cell (World.block_lt_of_cell? w _ hx186_3)).trans hx186_3; replace hx186_4 := (HB.out.cell (World.block_lt_of_cell? w _ hx186_4)).trans hx186_4; replace p186 := eq_true p186; replace q186 := eq_true q186))
    go_ret
    exact ⟨g5, g12 HB.out GE183.out⟩
   rw [if_neg c8] at H
   have c8b0 : (((rd_T93 l0_0 x5_1).f2) == a1) = false := beq_eq_false_iff_ne.mpr c8
   have c8b1 : (((rd_T93 l0_0 x5_1).f2) != a1) = true := bne_iff_ne.mpr c8
   by_cases c12 : ((rd_T93 l0_0 x5_1).f3) = a1
   case pos =>
    rw [if_pos c12] at H
    have c12b0 : (((rd_T93 l0_0 x5_1).f3) == a1) = true := beq_iff_eq.mpr c12
    have c12b1 : (((rd_T93 l0_0 x5_1).f3) != a1) = false := bne_eq_false_iff_eq.mpr c12
    clear c12
    obtain rfl := Option.some.inj H
    have hcz13_0 : wr.cell? ⟨gb183, 0, none⟩ = some (.slice A0_0 l0_0.length c0_0) := (blk_cell BK183.out 0).trans rfl
    have hfz13_0 := blk_frozen BK183.out 0
    have p184 : 0 ≤ (x5_1 : Int) := of_decide_eq_true (g6)
    have q184 : x5_1 < (l0_0.length : Int) := of_decide_eq_true (g6)
    obtain ⟨ad184, e184, hx184_0, hx184_1, hx184_2, hx184_3, hx184_4⟩ := at_T93 HR0_0.out x5_1 p184 q184
    cases e184
    replace hx184_0 := (HB.out.cell (World.block_lt_of_cell? w _ hx184_0)).trans hx184_0
    replace hx184_1 := (HB.out.cell (World.block_lt_of_cell? w _ hx184_1)).trans hx184_1
    replace hx184_2 := (HB.out.cell (World.block_lt_of_cell? w _ hx184_2)).trans hx184_2
    replace hx184_3 := (HB.out.cell (World.block_lt_of_cell? w _ hx184_3)).trans hx184_3
    replace hx184_4 := (HB.out.cell (World.block_lt_of_cell? w _ hx184_4)).trans hx184_4
    replace p184 := eq_true p184
    replace q184 := eq_true q184
    go_wp2_with (first | ((with_reducible refine gate_callee (f := 117) rfl ?_); refine goesL_ (some 18) rfl rfl Try.func117 (by kernel_rfl) rfl #[.agg #[.int .i64 ((rd_T93 l0_0 x5_1).f0), .int .i64 ((rd_T93 l0_0 x5_1).f1), .int .i64 ((rd_T93 l0_0 x5_1).f2), .int .i64 ((rd_T93 l0_0 x5_1).f3), .int .i64 ((rd_T93 l0_0 x5_1).f4)]] rfl (g9) ?_; (with_reducible refine (spec_l17Inner.calls ((rd_T93 l0_0 x5_1).f0) ((rd_T93 l0_0 x5_1).f1) ((rd_T93 l0_0 x5_1).f2) ((rd_T93 l0_0 x5_1).f3) ((rd_T93 l0_0 x5_1).f4) true _ A6.out).mono ?_); rintro e w14 ⟨rfl, hb⟩; refine ⟨_, rfl, ?_⟩; have n_ := spec_l17Shape.K2_ (blk_below (g := gb183) (o := .cells #[.slice (some ad184) l0_0.length c0_0] 68 (0, 0)) (g2 BK183.out) hb) (below_step (g12 HB.out GE183.out) hb); clear BK183 HB; obtain ⟨BK183, HB⟩ := n_; (try clear hb); (try clear hb2); (try clear hk); (try clear hi); have hcz15_0 : w14.cell? ⟨gb183, 0, none⟩ = some (.slice (some ad184) l0_0.length c0_0) := (blk_cell BK183.out 0).trans rfl; have hfz15_0 := blk_frozen BK183.out 0; have p186 : 0 ≤ (x5_1 : Int) := of_decide_eq_true (g6); have q186 : x5_1 < (l0_0.length : Int) := of_decide_eq_true (g6); obtain ⟨ad186, e186, hx186_0, hx186_1, hx186_2, hx186_3, hx186_4⟩ := at_T93 HR0_0.out x5_1 p186 q186; obtain rfl : ad184 = ad186 := (by injection e186); replace hx186_0 := (HB.out.cell (World.block_lt_of_cell? w _ hx186_0)).trans hx186_0; replace hx186_1 := (HB.out.cell (World.block_lt_of_cell? w _ hx186_1)).trans hx186_1; replace hx186_2 := (HB.out.cell (World.block_lt_of_cell? w _ hx186_2)).trans hx186_2; replace hx186_3 := (HB.out.cell (World.block_lt_of_cell? w _ hx186_3)).trans hx186_3; replace hx186_4 := (HB.out.cell (World.block_lt_of_cell? w _ hx186_4)).trans hx186_4; replace p186 := eq_true p186; replace q186 := eq_true q186; have p187 : 0 ≤ (x5_1 : Int) := of_decide_eq_true (g6); have q187 : x5_1 < (l0_0.length : Int) := of_decide_eq_true (g6); obtain ⟨ad187, e187, hx187_0, hx187_1, hx187_2, hx187_3, hx187_4⟩ := at_T93 HR0_0.out x5_1 p187 q187; obtain rfl : ad184 = ad187 := (by injection e187); replace hx187_0 := (HB.out.cell (World.block_lt_of_cell? w _ hx187_0)).trans hx187_0; replace hx187_1 := (HB.out.cell (World.block_lt_of_cell? w _ hx187_1)).trans hx187_1; replace hx187_2 := (HB.out.cell (World.block_lt_of_cell? w _ hx187_2)).trans hx187_2; replace hx187_3 := (HB.out.cell (World.block_lt_of_cell? w _ hx187_3)).trans hx187_3; replace hx187_4 := (HB.out.cell (World.block_lt_of_cell? w _ hx187_4)).trans hx187_4; replace p187 := eq_true p187; replace q187 := eq_true q187))
    go_ret
    exact ⟨g5, g12 HB.out GE183.out⟩
   rw [if_neg c12] at H
   have c12b0 : (((rd_T93 l0_0 x5_1).f3) == a1) = false := beq_eq_false_iff_ne.mpr c12
   have c12b1 : (((rd_T93 l0_0 x5_1).f3) != a1) = true := bne_iff_ne.mpr c12
   have H' := Aside0.mk H
   clear H
   have hcz16_0 : wr.cell? ⟨gb183, 0, none⟩ = some (.slice A0_0 l0_0.length c0_0) := (blk_cell BK183.out 0).trans rfl
   have hfz16_0 := blk_frozen BK183.out 0
   have p184 : 0 ≤ (x5_1 : Int) := of_decide_eq_true (g6)
   have q184 : x5_1 < (l0_0.length : Int) := of_decide_eq_true (g6)
   obtain ⟨ad184, e184, hx184_0, hx184_1, hx184_2, hx184_3, hx184_4⟩ := at_T93 HR0_0.out x5_1 p184 q184
   cases e184
   replace hx184_0 := (HB.out.cell (World.block_lt_of_cell? w _ hx184_0)).trans hx184_0
   replace hx184_1 := (HB.out.cell (World.block_lt_of_cell? w _ hx184_1)).trans hx184_1
   replace hx184_2 := (HB.out.cell (World.block_lt_of_cell? w _ hx184_2)).trans hx184_2
   replace hx184_3 := (HB.out.cell (World.block_lt_of_cell? w _ hx184_3)).trans hx184_3
   replace hx184_4 := (HB.out.cell (World.block_lt_of_cell? w _ hx184_4)).trans hx184_4
   replace p184 := eq_true p184
   replace q184 := eq_true q184
   go_wp2_with (first | ((with_reducible refine gate_callee (f := 117) rfl ?_); refine goesL_ (some 18) rfl rfl Try.func117 (by kernel_rfl) rfl #[.agg #[.int .i64 ((rd_T93 l0_0 x5_1).f0), .int .i64 ((rd_T93 l0_0 x5_1).f1), .int .i64 ((rd_T93 l0_0 x5_1).f2), .int .i64 ((rd_T93 l0_0 x5_1).f3), .int .i64 ((rd_T93 l0_0 x5_1).f4)]] rfl (g9) ?_; (with_reducible refine (spec_l17Inner.calls ((rd_T93 l0_0 x5_1).f0) ((rd_T93 l0_0 x5_1).f1) ((rd_T93 l0_0 x5_1).f2) ((rd_T93 l0_0 x5_1).f3) ((rd_T93 l0_0 x5_1).f4) true _ A6.out).mono ?_); rintro e w17 ⟨rfl, hb⟩; refine ⟨_, rfl, ?_⟩; have n_ := spec_l17Shape.K2_ (blk_below (g := gb183) (o := .cells #[.slice (some ad184) l0_0.length c0_0] 68 (0, 0)) (g2 BK183.out) hb) (below_step (g12 HB.out GE183.out) hb); clear BK183 HB; obtain ⟨BK183, HB⟩ := n_; (try clear hb); (try clear hb2); (try clear hk); (try clear hi); have hcz18_0 : w17.cell? ⟨gb183, 0, none⟩ = some (.slice (some ad184) l0_0.length c0_0) := (blk_cell BK183.out 0).trans rfl; have hfz18_0 := blk_frozen BK183.out 0; have p186 : 0 ≤ (x5_1 : Int) := of_decide_eq_true (g6); have q186 : x5_1 < (l0_0.length : Int) := of_decide_eq_true (g6); obtain ⟨ad186, e186, hx186_0, hx186_1, hx186_2, hx186_3, hx186_4⟩ := at_T93 HR0_0.out x5_1 p186 q186; obtain rfl : ad184 = ad186 := (by injection e186); replace hx186_0 := (HB.out.cell (World.block_lt_of_cell? w _ hx186_0)).trans hx186_0; replace hx186_1 := (HB.out.cell (World.block_lt_of_cell? w _ hx186_1)).trans hx186_1; replace hx186_2 := (HB.out.cell (World.block_lt_of_cell? w _ hx186_2)).trans hx186_2; replace hx186_3 := (HB.out.cell (World.block_lt_of_cell? w _ hx186_3)).trans hx186_3; replace hx186_4 := (HB.out.cell (World.block_lt_of_cell? w _ hx186_4)).trans hx186_4; replace p186 := eq_true p186; replace q186 := eq_true q186; have p187 : 0 ≤ (x5_1 : Int) := of_decide_eq_true (g6); have q187 : x5_1 < (l0_0.length : Int) := of_decide_eq_true (g6); obtain ⟨ad187, e187, hx187_0, hx187_1, hx187_2, hx187_3, hx187_4⟩ := at_T93 HR0_0.out x5_1 p187 q187; obtain rfl : ad184 = ad187 := (by injection e187); replace hx187_0 := (HB.out.cell (World.block_lt_of_cell? w _ hx187_0)).trans hx187_0; replace hx187_1 := (HB.out.cell (World.block_lt_of_cell? w _ hx187_1)).trans hx187_1; replace hx187_2 := (HB.out.cell (World.block_lt_of_cell? w _ hx187_2)).trans hx187_2; replace hx187_3 := (HB.out.cell (World.block_lt_of_cell? w _ hx187_3)).trans hx187_3; replace hx187_4 := (HB.out.cell (World.block_lt_of_cell? w _ hx187_4)).trans hx187_4; replace p187 := eq_true p187; replace q187 := eq_true q187))
   go_roundg k1
   case measure => have := HK1.out; omega
   case rel => exact ⟨(wrap64 (x5_1 + 1)), (g0), H', ⟨by have := HK1.out; omega⟩, ⟨g2 BK183.out⟩, ⟨g12 HB.out GE183.out⟩⟩
def spec_LevelOf.l0 : Nat → Int → Int → List (S93) → Option (Int)
  | 0, _, _, _ => none
  | k + 1, x1, x5, x189000 => if x5 ≤ 31 then ((spec_l17Up.f k x189000 x1).bind fun t190 => (if t190 < 0 then (some x5) else (spec_LevelOf.l0 k t190 (wrap64 (x5 + 1)) x189000))) else (some (-1))
def spec_LevelOf.f (k : Nat) (l0_0 : List (S93)) (a1 : Int) : Option (Int) := (spec_l1In.f a1 0 (wrap64 ((l0_0.length : Int) - 1))).bind fun t189 => (if t189 = true then (spec_LevelOf.l0 k a1 0 l0_0) else (some (-1)))
set_option maxHeartbeats 8000000 in
set_option maxRecDepth 100000 in
theorem spec_LevelOf.calls (k : Nat) (A0_0 : Option Addr) (c0_0 : Nat) (l0_0 : List (S93)) (a1 : Int) (r : Int) (w : World) (hr0_0 : Kd.C k93 w A0_0 l0_0.length l0_0) (hc0_0 : l0_0.length ≤ c0_0) (h : spec_LevelOf.f k l0_0 a1 = some r) :
    Calls Try.prog 151 #[.agg #[.slice A0_0 l0_0.length c0_0], .int .i64 a1] w fun e w' => e = .returned (.int .i64 r) ∧ Below w.heap.size w w' := by
 have hu68 := Try.underlying68
 have HR0_0 := Aside0.mk hr0_0
 have HC0_0 := Aside0.mk hc0_0
 clear hr0_0 hc0_0
 have HB := Aside0.mk (Below.refl w.heap.size w)
 have H : ((spec_l1In.f a1 0 (wrap64 ((l0_0.length : Int) - 1))).bind fun t189 => (if t189 = true then (spec_LevelOf.l0 k a1 0 l0_0) else (some (-1)))) = some r := h
 clear h
 replace H := Option.bind_eq_some_iff.mp H
 obtain ⟨t189, A30, H⟩ := H
 replace H : (if t189 = true then (spec_LevelOf.l0 k a1 0 l0_0) else (some (-1))) = some r := H
 have A3 := Aside0.mk A30
 clear A30
 have HZ4 := Aside0.mk H
 clear H
 go_enter Try.func151, Try.ntmps151
 go_upto_if 12 with (first | ((with_reducible refine gate_dst (N := 2) rfl ?_); refine box_event ?hg (N := 2) ?hd (cs := #[.slice A0_0 l0_0.length c0_0]) (t := 68) ?hr ?_; (case hd => rfl); (case hg => rfl); (case hr => exact g10); intro gb188 hg w5 hbox hb; have n_ := spec_l17Shape.K4_ (below_step (g4 HB.out) hb) hbox ((g11 HB.out : w.heap.size ≤ gb188)) ((g11 HB.out : w.heap.size ≤ gb188)); clear HB; obtain ⟨HB, BK188, GW188, GE188⟩ := n_; clear hb hbox hg; have hcz6_0 : w5.cell? ⟨gb188, 0, none⟩ = some (.slice A0_0 l0_0.length c0_0) := (blk_cell BK188.out 0).trans rfl; have hfz6_0 := blk_frozen BK188.out 0) | ((with_reducible refine gate_callee (f := 54) rfl ?_); refine goesL_ (some 11) rfl rfl Try.func54 (by kernel_rfl) rfl #[.int .i64 a1, .int .i64 0, .int .i64 (wrap64 ((l0_0.length : Int) - 1))] rfl (g9) ?_; (with_reducible refine (spec_l1In.calls a1 0 (wrap64 ((l0_0.length : Int) - 1)) t189 _ A3.out).mono ?_); rintro e w' ⟨rfl, ⟨nd, rfl⟩⟩; refine ⟨_, rfl, ?_⟩))
 (try simp only [Act.put, List.setIfInBounds_toArray, List.set_cons_zero, List.set_cons_succ])
 have H := HZ4.out
 clear HZ4
 by_cases c7 : t189 = true
 case neg =>
  replace c7 := Bool.eq_false_iff.mpr c7
  subst c7
  have H1 : (some (-1)) = some r := by rw [if_neg (show ¬ (false = true) by decide)] at H; exact H
  clear H
  have H := H1
  clear H1
  obtain rfl := Option.some.inj H
  go_wp2
  go_ret
  exact ⟨g5, g12 HB.out GE188.out⟩
 subst c7
 have H1 : (spec_LevelOf.l0 k a1 0 l0_0) = some r := by rw [if_pos rfl] at H; exact H
 clear H
 have H := H1
 clear H1
 have H' := Aside0.mk H
 clear H
 go_wp2
 go_loopg [1, 5] k (fun kq v1 v5 w' => ∃ (x1_1 : Int) (x5_1 : Int), v1 = .int .i64 x1_1 ∧ v5 = .int .i64 x5_1 ∧ Aside0 (spec_LevelOf.l0 kq x1_1 x5_1 l0_0 = some r) ∧ Aside0 (kq ≤ k) ∧ Aside0 (w'.heap[gb188]? = some (.cells #[(.slice A0_0 l0_0.length c0_0)] 68 (0, 0))) ∧ Aside0 (Below w.heap.size w w'))
 case atStart => exact ⟨(a1), (0), (g0), (g0), H', ⟨Nat.le_refl _⟩, ⟨g2 BK188.out⟩, ⟨g12 HB.out GE188.out⟩⟩
 case round =>
  clear H'
  try clear c1
  try clear p2
  try clear c5
  try clear p6
  try clear c7
  try clear hcz6_0
  try clear hfz6_0
  obtain ⟨x1_1, x5_1, rfl, rfl, HA, HK1, BK188, HB⟩ := hrel
  cases gk with
  | zero => exact absurd HA.out (by simp [spec_LevelOf.l0])
  | succ k1 =>
   have H := HA.out
   clear HA
   simp only [spec_LevelOf.l0] at H
   by_cases c8 : x5_1 ≤ 31
   case neg =>
    rw [if_neg c8] at H
    have c8b0 : decide (x5_1 ≤ 31) = false := decide_eq_false c8
    clear c8
    (first | rw [c8b0] | (simp only [i64_w, i32_w]; rw [c8b0]) | skip)
    obtain rfl := Option.some.inj H
    go_wp2
    go_ret
    exact ⟨g5, g12 HB.out GE188.out⟩
   rw [if_pos c8] at H
   have c8b0 : decide (x5_1 ≤ 31) = true := decide_eq_true c8
   clear c8
   (first | rw [c8b0] | (simp only [i64_w, i32_w]; rw [c8b0]) | skip)
   replace H := Option.bind_eq_some_iff.mp H
   obtain ⟨t190, A90, H⟩ := H
   replace H : (if t190 < 0 then (some x5_1) else (spec_LevelOf.l0 k1 t190 (wrap64 (x5_1 + 1)) l0_0)) = some r := H
   have A9 := Aside0.mk A90
   clear A90
   by_cases c10 : t190 < 0
   case pos =>
    rw [if_pos c10] at H
    have c10b0 : decide (t190 < 0) = true := decide_eq_true c10
    clear c10
    obtain rfl := Option.some.inj H
    have hcz11_0 : wr.cell? ⟨gb188, 0, none⟩ = some (.slice A0_0 l0_0.length c0_0) := (blk_cell BK188.out 0).trans rfl
    have hfz11_0 := blk_frozen BK188.out 0
    go_wp2_with (first | ((with_reducible refine gate_callee (f := 152) rfl ?_); refine goesL_ (some 17) rfl rfl Try.func152 (by kernel_rfl) rfl #[.agg #[.slice A0_0 l0_0.length c0_0], .int .i64 x1_1] rfl (g9) ?_; (with_reducible refine (spec_l17Up.calls k1 _ _ l0_0 x1_1 t190 _ ?side1 ?side2 A9.out).mono ?_); (case side1 => exact g20 HR0_0.out HB.out); (case side2 => exact HC0_0.out); rintro e w12 ⟨rfl, hb⟩; refine ⟨_, rfl, ?_⟩; have n_ := spec_l17Shape.K2_ (blk_below (g := gb188) (o := .cells #[.slice A0_0 l0_0.length c0_0] 68 (0, 0)) (g2 BK188.out) hb) (below_step (g12 HB.out GE188.out) hb); clear BK188 HB; obtain ⟨BK188, HB⟩ := n_; (try clear hb); (try clear hb2); (try clear hk); (try clear hi)))
    go_ret
    exact ⟨g5, g12 HB.out GE188.out⟩
   rw [if_neg c10] at H
   have c10b0 : decide (t190 < 0) = false := decide_eq_false c10
   clear c10
   have H' := Aside0.mk H
   clear H
   have hcz13_0 : wr.cell? ⟨gb188, 0, none⟩ = some (.slice A0_0 l0_0.length c0_0) := (blk_cell BK188.out 0).trans rfl
   have hfz13_0 := blk_frozen BK188.out 0
   go_wp2_with (first | ((with_reducible refine gate_callee (f := 152) rfl ?_); refine goesL_ (some 17) rfl rfl Try.func152 (by kernel_rfl) rfl #[.agg #[.slice A0_0 l0_0.length c0_0], .int .i64 x1_1] rfl (g9) ?_; (with_reducible refine (spec_l17Up.calls k1 _ _ l0_0 x1_1 t190 _ ?side1 ?side2 A9.out).mono ?_); (case side1 => exact g20 HR0_0.out HB.out); (case side2 => exact HC0_0.out); rintro e w14 ⟨rfl, hb⟩; refine ⟨_, rfl, ?_⟩; have n_ := spec_l17Shape.K2_ (blk_below (g := gb188) (o := .cells #[.slice A0_0 l0_0.length c0_0] 68 (0, 0)) (g2 BK188.out) hb) (below_step (g12 HB.out GE188.out) hb); clear BK188 HB; obtain ⟨BK188, HB⟩ := n_; (try clear hb); (try clear hb2); (try clear hk); (try clear hi)))
   go_roundg k1
   case measure => have := HK1.out; omega
   case rel => exact ⟨(t190), (wrap64 (x5_1 + 1)), (g0), (g0), H', ⟨by have := HK1.out; omega⟩, ⟨g2 BK188.out⟩, ⟨g12 HB.out GE188.out⟩⟩
def spec_l1Max.f (a0 : Int) (a1 : Int) : Option (Int) := if a0 > a1 then (some a0) else (some a1)
set_option maxHeartbeats 8000000 in
set_option maxRecDepth 100000 in
theorem spec_l1Max.calls (a0 : Int) (a1 : Int) (r : Int) (w : World) (h : spec_l1Max.f a0 a1 = some r) :
    Calls Try.prog 150 #[.int .i64 a0, .int .i64 a1] w fun e w' => e = .returned (.int .i64 r) ∧ Drawn0 w w' := by
 have H : (if a0 > a1 then (some a0) else (some a1)) = some r := h
 clear h
 by_cases c3 : a0 > a1
 case neg =>
  rw [if_neg c3] at H
  have c3b0 : decide (a1 < a0) = false := decide_eq_false c3
  clear c3
  obtain rfl := Option.some.inj H
  go_enter Try.func150, Try.ntmps150
  go_wp2
  go_ret
  exact ⟨g0, g21⟩
 rw [if_pos c3] at H
 have c3b0 : decide (a1 < a0) = true := decide_eq_true c3
 clear c3
 obtain rfl := Option.some.inj H
 go_enter Try.func150, Try.ntmps150
 go_wp2
 go_ret
 exact ⟨g0, g21⟩
end Go.Proofs.Yteoikmbdpofhmaa.XFnUses
