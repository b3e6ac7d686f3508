import Derived.Test.YteoikmbdpofhmaaVFnUsesXx0
import Derived.Test.YteoikmbdpofhmaaVFnUsesXx2
import Derived.Test.YteoikmbdpofhmaaVFnUsesXx3
namespace Go.Proofs.Yteoikmbdpofhmaa.XFnUses
open Go.RowKit Go.Proofs.YteoikmbdpofhmaaW.PrintWords Go.Proofs.YteoikmbdpofhmaaW.PrintLast Go.Proofs.YteoikmbdpofhmaaW.PrintMore
attribute [local go_sem] max2_int min2_int max_two min_two max_three min_three max_four min_four
set_option linter.unusedVariables false
set_option linter.unusedSimpArgs false
theorem spec_DepthOf.K2_ {p0 p1 : Prop} (h0 : p0) (h1 : p1) : Aside0 p0 ∧ Aside0 p1 := ⟨⟨h0⟩, ⟨h1⟩⟩
theorem spec_DepthOf.K4_ {p0 p1 p2 p3 : Prop} (h0 : p0) (h1 : p1) (h2 : p2) (h3 : p3) : Aside0 p0 ∧ Aside0 p1 ∧ Aside0 p2 ∧ Aside0 p3 := ⟨⟨h0⟩, ⟨h1⟩, ⟨h2⟩, ⟨h3⟩⟩
def spec_DepthOf.l0 : Nat → Int → Int → List (S93) → Option (Int)
  | 0, _, _, _ => none
  | k + 1, x3, x4, x192000 => if x4 < (x192000.length : Int) then ((spec_LevelOf.f k x192000 x4).bind fun t192 => ((spec_l1Max.f x3 t192).bind fun t193 => (spec_DepthOf.l0 k t193 (wrap64 (x4 + 1)) x192000))) else (some x3)
def spec_DepthOf.f (k : Nat) (l0_0 : List (S93)) : Option (Int) := spec_DepthOf.l0 k (-1) 0 l0_0
set_option maxHeartbeats 8000000 in
set_option maxRecDepth 100000 in
theorem spec_DepthOf.calls (k : Nat) (A0_0 : Option Addr) (c0_0 : Nat) (l0_0 : List (S93)) (r : Int) (w : World) (hr0_0 : Kd.C k93 w A0_0 l0_0.length l0_0) (hc0_0 : l0_0.length ≤ c0_0) (h : spec_DepthOf.f k l0_0 = some r) :
    Calls Try.prog 124 #[.agg #[.slice A0_0 l0_0.length c0_0]] w fun e w' => e = .returned (.int .i64 r) ∧ Below w.heap.size w w' := by
 have hu68 := Try.underlying68
 have HR0_0 := Aside0.mk hr0_0
 have HC0_0 := Aside0.mk hc0_0
 clear hr0_0 hc0_0
 have HB := Aside0.mk (Below.refl w.heap.size w)
 have H : (spec_DepthOf.l0 k (-1) 0 l0_0) = some r := h
 clear h
 have H' := Aside0.mk H
 clear H
 go_enter Try.func124, Try.ntmps124
 go_wp2_with (first | ((with_reducible refine gate_dst (N := 1) rfl ?_); refine box_event ?hg (N := 1) ?hd (cs := #[.slice A0_0 l0_0.length c0_0]) (t := 68) ?hr ?_; (case hd => rfl); (case hg => rfl); (case hr => exact g10); intro gb191 hg w2 hbox hb; have n_ := spec_DepthOf.K4_ (below_step (g4 HB.out) hb) hbox ((g11 HB.out : w.heap.size ≤ gb191)) ((g11 HB.out : w.heap.size ≤ gb191)); clear HB; obtain ⟨HB, BK191, GW191, GE191⟩ := n_; clear hb hbox hg))
 go_loopg [3, 4] k (fun kq v3 v4 w' => ∃ (x3_1 : Int) (x4_1 : Int), v3 = .int .i64 x3_1 ∧ v4 = .int .i64 x4_1 ∧ Aside0 (spec_DepthOf.l0 kq x3_1 x4_1 l0_0 = some r) ∧ Aside0 (kq ≤ k) ∧ Aside0 (w'.heap[gb191]? = some (.cells #[(.slice A0_0 l0_0.length c0_0)] 68 (0, 0))) ∧ Aside0 (Below w.heap.size w w'))
 case atStart => exact ⟨((-1)), (0), (g0), (g0), H', ⟨Nat.le_refl _⟩, ⟨g2 BK191.out⟩, ⟨g12 HB.out GE191.out⟩⟩
 case round =>
  clear H'
  try clear c1
  try clear p2
  obtain ⟨x3_1, x4_1, rfl, rfl, HA, HK1, BK191, HB⟩ := hrel
  cases gk with
  | zero => exact absurd HA.out (by simp [spec_DepthOf.l0])
  | succ k1 =>
   have H := HA.out
   clear HA
   simp only [spec_DepthOf.l0] at H
   by_cases c3 : x4_1 < (l0_0.length : Int)
   case neg =>
    rw [if_neg c3] at H
    have c3b0 : decide (x4_1 < (l0_0.length : Int)) = false := decide_eq_false c3
    clear c3
    obtain rfl := Option.some.inj H
    have hcz8_0 : wr.cell? ⟨gb191, 0, none⟩ = some (.slice A0_0 l0_0.length c0_0) := (blk_cell BK191.out 0).trans rfl
    have hfz8_0 := blk_frozen BK191.out 0
    go_wp2
    go_ret
    exact ⟨g5, g12 HB.out GE191.out⟩
   rw [if_pos c3] at H
   have c3b0 : decide (x4_1 < (l0_0.length : Int)) = true := decide_eq_true c3
   clear c3
   replace H := Option.bind_eq_some_iff.mp H
   obtain ⟨t192, A40, H⟩ := H
   replace H : ((spec_l1Max.f x3_1 t192).bind fun t193 => (spec_DepthOf.l0 k1 t193 (wrap64 (x4_1 + 1)) l0_0)) = some r := H
   have A4 := Aside0.mk A40
   clear A40
   replace H := Option.bind_eq_some_iff.mp H
   obtain ⟨t193, A50, H⟩ := H
   replace H : (spec_DepthOf.l0 k1 t193 (wrap64 (x4_1 + 1)) l0_0) = some r := H
   have A5 := Aside0.mk A50
   clear A50
   have H' := Aside0.mk H
   clear H
   have hcz6_0 : wr.cell? ⟨gb191, 0, none⟩ = some (.slice A0_0 l0_0.length c0_0) := (blk_cell BK191.out 0).trans rfl
   have hfz6_0 := blk_frozen BK191.out 0
   go_wp2_with (first | ((with_reducible refine gate_callee (f := 151) rfl ?_); refine goesL_ (some 15) rfl rfl Try.func151 (by kernel_rfl) rfl #[.agg #[.slice A0_0 l0_0.length c0_0], .int .i64 x4_1] rfl (g9) ?_; (with_reducible refine (spec_LevelOf.calls k1 _ _ l0_0 x4_1 t192 _ ?side1 ?side2 A4.out).mono ?_); (case side1 => exact g20 HR0_0.out HB.out); (case side2 => exact HC0_0.out); rintro e w7 ⟨rfl, hb⟩; refine ⟨_, rfl, ?_⟩; have n_ := spec_DepthOf.K2_ (blk_below (g := gb191) (o := .cells #[.slice A0_0 l0_0.length c0_0] 68 (0, 0)) (g2 BK191.out) hb) (below_step (g12 HB.out GE191.out) hb); clear BK191 HB; obtain ⟨BK191, HB⟩ := n_; (try clear hb); (try clear hb2); (try clear hk); (try clear hi)) | ((with_reducible refine gate_callee (f := 150) rfl ?_); refine goesL_ (some 16) rfl rfl Try.func150 (by kernel_rfl) rfl #[.int .i64 x3_1, .int .i64 t192] rfl (g9) ?_; (with_reducible refine (spec_l1Max.calls x3_1 t192 t193 _ A5.out).mono ?_); rintro e w' ⟨rfl, ⟨nd, rfl⟩⟩; refine ⟨_, rfl, ?_⟩))
   go_roundg k1
   case measure => have := HK1.out; omega
   case rel => exact ⟨(t193), (wrap64 (x4_1 + 1)), (g0), (g0), H', ⟨by have := HK1.out; omega⟩, ⟨g2 BK191.out⟩, ⟨g12 HB.out GE191.out⟩⟩
theorem spec_l17Ways.fill5 {w W W' : World} {g t : Nat} {z0 z1 z2 z3 z4 a b c d e : Value} (hB : Below w.heap.size w W) (hg : w.heap.size ≤ g) (hz : W.heap[g]? = some (.cells #[z0, z1, z2, z3, z4] t (0, 0)))
    (hW : W' = ((((W.setCell ⟨g, 0, none⟩ a).setCell ⟨g, 1, none⟩ b).setCell ⟨g, 2, none⟩ c).setCell ⟨g, 3, none⟩ d).setCell ⟨g, 4, none⟩ e) :
    Below w.heap.size w W' ∧ W'.heap[g]? = some (.cells #[a, b, c, d, e] t (0, 0)) ∧ ∀ k, k ≠ g → W'.heap[k]? = W.heap[k]? := by
  refine ⟨?_, ?_, fun k hk => ?_⟩
  · subst hW
    exact below_set (below_set (below_set (below_set (below_set hB hg) hg) hg) hg) hg
  · subst hW
    have := blk_set (blk_set (blk_set (blk_set (blk_set hz 0 a) 1 b) 2 c) 3 d) 4 e
    simpa using this
  · subst hW
    rw [Below.heap_setCell _ _ _ _ hk, Below.heap_setCell _ _ _ _ hk, Below.heap_setCell _ _ _ _ hk, Below.heap_setCell _ _ _ _ hk, Below.heap_setCell _ _ _ _ hk]
def spec_l17Ways.bad (x y : S93) (v : Int) : Bool := (x.f0 == y.f0) && ((x.f3 == v && decide (y.f1 ≤ x.f1)) || (x.f2 == v && decide (x.f1 ≤ y.f1)))
mutual
def spec_l17Ways.l0 : Nat → Int → List S93 → Option Bool
  | 0, _, _ => none
  | k + 1, x3, l => if x3 < (l.length : Int) then (if 0 ≤ x3 then (if ((rd_T93 l x3).f0 != (-1)) = true then ((spec_l17Up.f k l x3).bind fun t => spec_l17Ways.l1 k x3 x3 t l) else spec_l17Ways.l0 k (wrap64 (x3 + 1)) l) else none) else some true
def spec_l17Ways.l1 : Nat → Int → Int → Int → List S93 → Option Bool
  | 0, _, _, _, _ => none
  | k + 1, x3, x4, x5, l => if 0 ≤ x5 then (if x5 < (l.length : Int) then (if spec_l17Ways.bad (rd_T93 l x5) (rd_T93 l x3) x4 = true then some false else ((spec_l17Up.f k l x5).bind fun t => spec_l17Ways.l1 k x3 x5 t l)) else none) else spec_l17Ways.l0 k (wrap64 (x3 + 1)) l
end
def spec_l17Ways.f (k : Nat) (l0_0 : List S93) : Option Bool := spec_l17Ways.l0 k 0 l0_0
set_option maxHeartbeats 8000000 in
set_option maxRecDepth 100000 in
theorem spec_l17Ways.calls (k : Nat) (A0_0 : Option Addr) (c0_0 : Nat) (l0_0 : List S93) (r : Bool) (w : World) (hr0_0 : Kd.C k93 w A0_0 l0_0.length l0_0) (hc0_0 : l0_0.length ≤ c0_0) (h : spec_l17Ways.f k l0_0 = some r) :
    Calls Try.prog 125 #[.agg #[.slice A0_0 l0_0.length c0_0]] w fun e w' => e = .returned (.bool r) ∧ Below w.heap.size w w' := by
 have hu65 := Try.underlying68
 have hu23 := Try.underlying93
 have HR := Aside0.mk hr0_0
 clear hr0_0
 have HB := Aside0.mk (Below.refl w.heap.size w)
 have H' := Aside0.mk (show spec_l17Ways.l0 k 0 l0_0 = some r from h)
 clear h
 go_enter Try.func125, Try.ntmps125
 go_wp2_with (first | ((with_reducible refine gate_dst (N := 1) rfl ?_); refine box_event ?hg (N := 1) ?hd (cs := #[.slice A0_0 l0_0.length c0_0]) (t := 68) ?hr ?_; (case hd => rfl); (case hg => rfl); (case hr => exact g10); intro gb hg w2 hbox hb; (have n0_ := Aside0.mk (below_step HB.out hb)); (have n1_ := Aside0.mk hbox); (have n2_ := Aside0.mk (show w.heap.size ≤ gb from by rw [hg]; exact below_size HB.out)); clear HB; (have HB := n0_); (have BK := n1_); (have GB := n2_); clear n0_ n1_ n2_ hb hbox hg))
 go_loopg [3] k (fun kq v3 w' => ∃ (x3_1 : Int), v3 = .int .i64 x3_1 ∧ Aside0 (spec_l17Ways.l0 kq x3_1 l0_0 = some r) ∧ Aside0 (kq ≤ k) ∧ Aside0 (w'.heap[gb]? = some (.cells #[.slice A0_0 l0_0.length c0_0] 68 (0, 0))) ∧ Aside0 (Below w.heap.size w w'))
 case atStart => exact ⟨0, rfl, H', ⟨Nat.le_refl _⟩, BK, HB⟩
 case round =>
  clear H'
  obtain ⟨x3_1, rfl, HA, HK1, BK, HB⟩ := hrel
  cases gk with
  | zero => exact absurd HA.out (by simp [spec_l17Ways.l0])
  | succ k1 =>
   have H := HA.out
   clear HA
   simp only [spec_l17Ways.l0] at H
   have hcz_0 : wr.cell? ⟨gb, 0, none⟩ = some (.slice A0_0 l0_0.length c0_0) := (blk_cell BK.out 0).trans rfl
   by_cases c3 : x3_1 < (l0_0.length : Int)
   case neg =>
    rw [if_neg c3] at H
    have c3b0 : decide (x3_1 < (l0_0.length : Int)) = false := decide_eq_false c3
    clear c3
    obtain rfl := Option.some.inj H
    go_wp2
    go_ret
    exact ⟨by first | rfl | (simp; done), HB.out⟩
   rw [if_pos c3] at H
   have c3b0 : decide (x3_1 < (l0_0.length : Int)) = true := decide_eq_true c3
   by_cases c4 : 0 ≤ x3_1
   case neg =>
    rw [if_neg c4] at H
    exact absurd H (by simp)
   rw [if_pos c4] at H
   have c4b0 : decide (0 ≤ x3_1) = true := decide_eq_true c4
   obtain ⟨ad, e195, hx_0, hx_1, hx_2, hx_3, hx_4⟩ := at_T93 HR.out x3_1 c4 c3
   cases e195
   have HX := Aside0.mk (And.intro c4 c3)
   have XC := Aside0.mk (And.intro hx_0 (And.intro hx_1 (And.intro hx_2 (And.intro hx_3 hx_4))))
   replace hx_0 := (HB.out.cell (World.block_lt_of_cell? w _ hx_0)).trans hx_0
   replace hx_1 := (HB.out.cell (World.block_lt_of_cell? w _ hx_1)).trans hx_1
   replace hx_2 := (HB.out.cell (World.block_lt_of_cell? w _ hx_2)).trans hx_2
   replace hx_3 := (HB.out.cell (World.block_lt_of_cell? w _ hx_3)).trans hx_3
   replace hx_4 := (HB.out.cell (World.block_lt_of_cell? w _ hx_4)).trans hx_4
   have p195 := eq_true c4
   have q195 := eq_true c3
   clear c3 c4
   by_cases c6 : ((rd_T93 l0_0 x3_1).f0 != (-1)) = true
   case neg =>
    rw [if_neg c6] at H
    have X6 := Aside0.mk (show spec_l17Inner.f (rd_T93 l0_0 x3_1).f0 (rd_T93 l0_0 x3_1).f1 (rd_T93 l0_0 x3_1).f2 (rd_T93 l0_0 x3_1).f3 (rd_T93 l0_0 x3_1).f4 = some false from congrArg some (Bool.eq_false_iff.2 c6))
    clear c6
    have H' := Aside0.mk H
    clear H
    go_wp2_with (first | (go_at_call 117; (with_reducible refine (spec_l17Inner.calls (rd_T93 l0_0 x3_1).f0 (rd_T93 l0_0 x3_1).f1 (rd_T93 l0_0 x3_1).f2 (rd_T93 l0_0 x3_1).f3 (rd_T93 l0_0 x3_1).f4 _ _ X6.out).mono ?_); rintro e w7 ⟨rfl, hb⟩; have n_ := spec_DepthOf.K2_ (blk_below BK.out hb) (below_step HB.out hb); clear BK HB hb hcz_0; obtain ⟨BK, HB⟩ := n_; (have hcz_0 : w7.cell? ⟨gb, 0, none⟩ = some (.slice (some ad) l0_0.length c0_0) := (blk_cell BK.out 0).trans rfl)))
    go_roundg k1
    case measure => have := HK1.out; omega
    case rel => exact ⟨wrap64 (x3_1 + 1), by first | rfl | (simp; done), H', ⟨by have := HK1.out; omega⟩, BK, HB⟩
   rw [if_pos c6] at H
   have X6 := Aside0.mk (show spec_l17Inner.f (rd_T93 l0_0 x3_1).f0 (rd_T93 l0_0 x3_1).f1 (rd_T93 l0_0 x3_1).f2 (rd_T93 l0_0 x3_1).f3 (rd_T93 l0_0 x3_1).f4 = some true from congrArg some c6)
   clear c6
   obtain ⟨t197, A70, H⟩ := Option.bind_eq_some_iff.mp H
   have A7 := Aside0.mk A70
   clear A70
   have H' := Aside0.mk H
   clear H
   go_wp2_with (first | (go_at_call 117; (with_reducible refine (spec_l17Inner.calls (rd_T93 l0_0 x3_1).f0 (rd_T93 l0_0 x3_1).f1 (rd_T93 l0_0 x3_1).f2 (rd_T93 l0_0 x3_1).f3 (rd_T93 l0_0 x3_1).f4 _ _ X6.out).mono ?_); rintro e w7 ⟨rfl, hb⟩; have n_ := spec_DepthOf.K2_ (blk_below BK.out hb) (below_step HB.out hb); clear BK HB hb hcz_0; obtain ⟨BK, HB⟩ := n_; (have hcz_0 : w7.cell? ⟨gb, 0, none⟩ = some (.slice (some ad) l0_0.length c0_0) := (blk_cell BK.out 0).trans rfl)) | (go_at_call 152; (with_reducible refine (spec_l17Up.calls k1 _ _ l0_0 x3_1 t197 _ ?side1 ?side2 A7.out).mono ?_); (case side1 => exact Kd.C_below HR.out HB.out); (case side2 => exact hc0_0); rintro e w8 ⟨rfl, hb⟩; have n_ := spec_DepthOf.K2_ (blk_below BK.out hb) (below_step HB.out hb); clear BK HB hb hcz_0; obtain ⟨BK, HB⟩ := n_; (have hcz_0 : w8.cell? ⟨gb, 0, none⟩ = some (.slice (some ad) l0_0.length c0_0) := (blk_cell BK.out 0).trans rfl)))
   clear hx_0 hx_1 hx_2 hx_3 hx_4 hcz_0 p195 q195
   go_loopg [4, 5] k1 (fun kq v4 v5 w' => ∃ (x4_2 : Int) (x5_2 : Int), v4 = .int .i64 x4_2 ∧ v5 = .int .i64 x5_2 ∧ Aside0 (spec_l17Ways.l1 kq x3_1 x4_2 x5_2 l0_0 = some r) ∧ Aside0 (kq ≤ k1) ∧ Aside0 (w'.heap[gb]? = some (.cells #[.slice (some ad) l0_0.length c0_0] 68 (0, 0))) ∧ Aside0 (Below w.heap.size w w'))
   case atStart => exact ⟨x3_1, t197, rfl, rfl, H', ⟨Nat.le_refl _⟩, BK, HB⟩
   case round =>
    clear H' BK HB
    obtain ⟨x4_2, x5_2, rfl, rfl, HA, HK2, BK, HB⟩ := hrel
    cases gk with
    | zero => exact absurd HA.out (by simp [spec_l17Ways.l1])
    | succ k2 =>
     have H := HA.out
     clear HA
     simp only [spec_l17Ways.l1] at H
     have hcz_0 : wr.cell? ⟨gb, 0, none⟩ = some (.slice (some ad) l0_0.length c0_0) := (blk_cell BK.out 0).trans rfl
     by_cases c12 : 0 ≤ x5_2
     case neg =>
      rw [if_neg c12] at H
      have c12b0 : decide (0 ≤ x5_2) = false := decide_eq_false c12
      clear c12
      have H' := Aside0.mk H
      clear H
      go_wp2
      go_roundg k2
      case measure => have := HK1.out; have := HK2.out; omega
      case rel => exact ⟨wrap64 (x3_1 + 1), by first | rfl | (simp; done), H', ⟨by have := HK1.out; have := HK2.out; omega⟩, BK, HB⟩
     rw [if_pos c12] at H
     have c12b0 : decide (0 ≤ x5_2) = true := decide_eq_true c12
     by_cases c14 : x5_2 < (l0_0.length : Int)
     case neg =>
      rw [if_neg c14] at H
      exact absurd H (by simp)
     rw [if_pos c14] at H
     have c14b0 : decide (x5_2 < (l0_0.length : Int)) = true := decide_eq_true c14
     have HC := Aside0.mk H
     clear H
     obtain ⟨ad2, e198, hx_0, hx_1, hx_2, hx_3, hx_4⟩ := at_T93 HR.out x5_2 c12 c14
     obtain rfl : ad = ad2 := (by injection e198)
     clear e198
     replace hx_0 := (HB.out.cell (World.block_lt_of_cell? w _ hx_0)).trans hx_0
     replace hx_1 := (HB.out.cell (World.block_lt_of_cell? w _ hx_1)).trans hx_1
     replace hx_2 := (HB.out.cell (World.block_lt_of_cell? w _ hx_2)).trans hx_2
     replace hx_3 := (HB.out.cell (World.block_lt_of_cell? w _ hx_3)).trans hx_3
     replace hx_4 := (HB.out.cell (World.block_lt_of_cell? w _ hx_4)).trans hx_4
     have p198 := eq_true c12
     have q198 := eq_true c14
     clear c12 c14
     go_upto_region 10 with (first | ((with_reducible refine gate_dst (N := 6) rfl ?_); refine box_event ?hg (N := 6) ?hd (cs := #[.int .i64 0, .int .i64 0, .int .i64 0, .int .i64 0, .int .i64 0]) (t := 93) ?hr ?_; (case hd => rfl); (case hg => rfl); (case hr => exact g10); intro gx hg w17 hbox hb; (have n0_ := Aside0.mk (blk_below BK.out hb)); (have n1_ := Aside0.mk (below_step HB.out hb)); (have n2_ := Aside0.mk hbox); (have n3_ := Aside0.mk (show w.heap.size ≤ gx from by rw [hg]; exact below_size HB.out)); (have n4_ := Aside0.mk (show gb ≠ gx from by rw [hg]; exact Nat.ne_of_lt (blk_lt BK.out))); clear BK HB hb hbox hg hcz_0; (have BK := n0_); (have HB := n1_); (have BX := n2_); (have GX := n3_); (have NX := n4_); clear n0_ n1_ n2_ n3_ n4_; (have z0 : w17.cell? ⟨gx, 0, none⟩ = some (.int .i64 0) := (blk_cell BX.out 0).trans rfl); (have z1 : w17.cell? ⟨gx, 1, none⟩ = some (.int .i64 0) := (blk_cell BX.out 1).trans rfl); (have z2 : w17.cell? ⟨gx, 2, none⟩ = some (.int .i64 0) := (blk_cell BX.out 2).trans rfl); (have z3 : w17.cell? ⟨gx, 3, none⟩ = some (.int .i64 0) := (blk_cell BX.out 3).trans rfl); (have z4 : w17.cell? ⟨gx, 4, none⟩ = some (.int .i64 0) := (blk_cell BX.out 4).trans rfl); (have zf := blk_frozen BX.out)) | ((with_reducible refine gate_store (t := 93) (p := 6) rfl ?_); refine store_event (t := 93) (p := 6) (v := ?vo_s6) (w1 := (((((w17.setCell ⟨gx, 0, none⟩ (.int .i64 (rd_T93 l0_0 x5_2).f0)).setCell ⟨gx, 1, none⟩ (.int .i64 (rd_T93 l0_0 x5_2).f1)).setCell ⟨gx, 2, none⟩ (.int .i64 (rd_T93 l0_0 x5_2).f2)).setCell ⟨gx, 3, none⟩ (.int .i64 (rd_T93 l0_0 x5_2).f3)).setCell ⟨gx, 4, none⟩ (.int .i64 (rd_T93 l0_0 x5_2).f4))) ?hg ?ho ?hn ?hr ?_; (case ho => rfl); (case hg => rfl); (case hn => rfl); (case hr => exact g10); intro w18 hw; (have n0_ := spec_l17Ways.fill5 HB.out GX.out BX.out hw); clear hw z0 z1 z2 z3 z4 zf HB BX hx_0 hx_1 hx_2 hx_3 hx_4; (have HB := Aside0.mk n0_.1); (have BX := Aside0.mk n0_.2.1); (have n1_ := Aside0.mk ((n0_.2.2 gb NX.out).trans BK.out)); clear n0_ BK; (have BK := n1_); clear n1_))
     (try simp only [Act.put, List.setIfInBounds_toArray, List.set_cons_zero, List.set_cons_succ])
     go_cut [77] (fun v77 wc => v77 = .bool (spec_l17Ways.bad (rd_T93 l0_0 x5_2) (rd_T93 l0_0 x3_1) x4_2) ∧ Aside0 (wc.heap[gb]? = some (.cells #[.slice (some ad) l0_0.length c0_0] 68 (0, 0))) ∧ Aside0 (Below w.heap.size w wc))
     case first =>
      clear HC p198 q198
      have hcz_0 : w18.cell? ⟨gb, 0, none⟩ = some (.slice (some ad) l0_0.length c0_0) := (blk_cell BK.out 0).trans rfl
      have z0 : w18.cell? ⟨gx, 0, none⟩ = some (.int .i64 (rd_T93 l0_0 x5_2).f0) := (blk_cell BX.out 0).trans rfl
      have z1 : w18.cell? ⟨gx, 1, none⟩ = some (.int .i64 (rd_T93 l0_0 x5_2).f1) := (blk_cell BX.out 1).trans rfl
      have z2 : w18.cell? ⟨gx, 2, none⟩ = some (.int .i64 (rd_T93 l0_0 x5_2).f2) := (blk_cell BX.out 2).trans rfl
      have z3 : w18.cell? ⟨gx, 3, none⟩ = some (.int .i64 (rd_T93 l0_0 x5_2).f3) := (blk_cell BX.out 3).trans rfl
      obtain ⟨hx_0, hx_1, hx_2, hx_3, hx_4⟩ := XC.out
      replace hx_0 := (HB.out.cell (World.block_lt_of_cell? w _ hx_0)).trans hx_0
      replace hx_1 := (HB.out.cell (World.block_lt_of_cell? w _ hx_1)).trans hx_1
      clear hx_2 hx_3 hx_4
      have p195 := eq_true HX.out.1
      have q195 := eq_true HX.out.2
      have key : (((rd_T93 l0_0 x5_2).f0 == (rd_T93 l0_0 x3_1).f0) = false) ∨ (((rd_T93 l0_0 x5_2).f0 == (rd_T93 l0_0 x3_1).f0) = true ∧ ((rd_T93 l0_0 x5_2).f3 == x4_2) = true ∧ decide ((rd_T93 l0_0 x3_1).f1 ≤ (rd_T93 l0_0 x5_2).f1) = true) ∨ (((rd_T93 l0_0 x5_2).f0 == (rd_T93 l0_0 x3_1).f0) = true ∧ ((rd_T93 l0_0 x5_2).f3 == x4_2) = true ∧ decide ((rd_T93 l0_0 x3_1).f1 ≤ (rd_T93 l0_0 x5_2).f1) = false ∧ ((rd_T93 l0_0 x5_2).f2 == x4_2) = true) ∨ (((rd_T93 l0_0 x5_2).f0 == (rd_T93 l0_0 x3_1).f0) = true ∧ ((rd_T93 l0_0 x5_2).f3 == x4_2) = true ∧ decide ((rd_T93 l0_0 x3_1).f1 ≤ (rd_T93 l0_0 x5_2).f1) = false ∧ ((rd_T93 l0_0 x5_2).f2 == x4_2) = false) ∨ (((rd_T93 l0_0 x5_2).f0 == (rd_T93 l0_0 x3_1).f0) = true ∧ ((rd_T93 l0_0 x5_2).f3 == x4_2) = false ∧ ((rd_T93 l0_0 x5_2).f2 == x4_2) = true) ∨ (((rd_T93 l0_0 x5_2).f0 == (rd_T93 l0_0 x3_1).f0) = true ∧ ((rd_T93 l0_0 x5_2).f3 == x4_2) = false ∧ ((rd_T93 l0_0 x5_2).f2 == x4_2) = false) := by
       cases ((rd_T93 l0_0 x5_2).f0 == (rd_T93 l0_0 x3_1).f0) <;> cases ((rd_T93 l0_0 x5_2).f3 == x4_2) <;> cases decide ((rd_T93 l0_0 x3_1).f1 ≤ (rd_T93 l0_0 x5_2).f1) <;> cases ((rd_T93 l0_0 x5_2).f2 == x4_2) <;> simp
      rcases key with d0 | ⟨d0, d1, d2⟩ | ⟨d0, d1, d2, d3⟩ | ⟨d0, d1, d2, d3⟩ | ⟨d0, d1, d3⟩ | ⟨d0, d1, d3⟩
      all_goals
       go_quiet (fail)
       try go_wp2
       go_meet
       case rel => exact ⟨by unfold spec_l17Ways.bad; simp only [*] <;> simp, ⟨blk_drewN BK.out _⟩, ⟨pw_below_drewN HB.out _⟩⟩
     case rest =>
      clear HB BK BX GX NX p198 q198
      obtain ⟨rfl, BK, HB⟩ := hcut
      have hcz_0 : wc.cell? ⟨gb, 0, none⟩ = some (.slice (some ad) l0_0.length c0_0) := (blk_cell BK.out 0).trans rfl
      have H := HC.out
      clear HC
      cases hbad : spec_l17Ways.bad (rd_T93 l0_0 x5_2) (rd_T93 l0_0 x3_1) x4_2 with
      | true =>
       rw [hbad, if_pos rfl] at H
       obtain rfl := Option.some.inj H
       clear hbad
       go_wp2
       go_ret
       exact ⟨by first | rfl | (simp; done), HB.out⟩
      | false =>
       rw [hbad, if_neg (by decide)] at H
       clear hbad
       obtain ⟨t204, A460, H⟩ := Option.bind_eq_some_iff.mp H
       have A46 := Aside0.mk A460
       clear A460
       have H' := Aside0.mk H
       clear H
       go_wp2_with (first | (go_at_call 152; (with_reducible refine (spec_l17Up.calls k2 _ _ l0_0 x5_2 t204 _ ?side1 ?side2 A46.out).mono ?_); (case side1 => exact Kd.C_below HR.out HB.out); (case side2 => exact hc0_0); rintro e w8 ⟨rfl, hb⟩; have n_ := spec_DepthOf.K2_ (blk_below BK.out hb) (below_step HB.out hb); clear BK HB hb hcz_0; obtain ⟨BK, HB⟩ := n_; (have hcz_0 : w8.cell? ⟨gb, 0, none⟩ = some (.slice (some ad) l0_0.length c0_0) := (blk_cell BK.out 0).trans rfl)))
       go_roundg k2
       case measure => have := HK1.out; have := HK2.out; omega
       case rel => exact ⟨x5_2, t204, rfl, rfl, H', ⟨by have := HK1.out; have := HK2.out; omega⟩, BK, HB⟩
def spec_TreeOk.f (k : Nat) (l0_0 : List (S93)) (a1 : Int) : Option (Bool) := (spec_l1In.f (l0_0.length : Int) 1 31).bind fun t195 => (if t195 = true then ((spec_l1In.f a1 0 4).bind fun t196 => (if t196 = true then ((spec_l17Shape.f k l0_0 a1).bind fun t197 => (if t197 = true then ((spec_DepthOf.f k l0_0).bind fun t198 => (if t198 ≤ 4 then ((spec_l17Ways.f k l0_0).bind fun t199 => (some t199)) else (some false))) else (some false))) else (some false))) else (some false))
set_option maxHeartbeats 8000000 in
set_option maxRecDepth 100000 in
theorem spec_TreeOk.calls (k : Nat) (A0_0 : Option Addr) (c0_0 : Nat) (l0_0 : List (S93)) (a1 : Int) (r : Bool) (w : World) (hr0_0 : Kd.C k93 w A0_0 l0_0.length l0_0) (hc0_0 : l0_0.length ≤ c0_0) (h : spec_TreeOk.f k l0_0 a1 = some r) :
    Calls Try.prog 88 #[.agg #[.slice A0_0 l0_0.length c0_0], .int .i64 a1] w fun e w' => e = .returned (.bool r) ∧ Below w.heap.size w w' := by
 have hu68 := Try.underlying68
 have HR0_0 := Aside0.mk hr0_0
 have HC0_0 := Aside0.mk hc0_0
 clear hr0_0 hc0_0
 have HB := Aside0.mk (Below.refl w.heap.size w)
 have H : ((spec_l1In.f (l0_0.length : Int) 1 31).bind fun t195 => (if t195 = true then ((spec_l1In.f a1 0 4).bind fun t196 => (if t196 = true then ((spec_l17Shape.f k l0_0 a1).bind fun t197 => (if t197 = true then ((spec_DepthOf.f k l0_0).bind fun t198 => (if t198 ≤ 4 then ((spec_l17Ways.f k l0_0).bind fun t199 => (some t199)) else (some false))) else (some false))) else (some false))) else (some false))) = some r := h
 clear h
 replace H := Option.bind_eq_some_iff.mp H
 obtain ⟨t195, A30, H⟩ := H
 replace H : (if t195 = true then ((spec_l1In.f a1 0 4).bind fun t196 => (if t196 = true then ((spec_l17Shape.f k l0_0 a1).bind fun t197 => (if t197 = true then ((spec_DepthOf.f k l0_0).bind fun t198 => (if t198 ≤ 4 then ((spec_l17Ways.f k l0_0).bind fun t199 => (some t199)) else (some false))) else (some false))) else (some false))) else (some false)) = some r := H
 have A3 := Aside0.mk A30
 clear A30
 by_cases c4 : t195 = true
 case neg =>
  replace c4 := Bool.eq_false_iff.mpr c4
  subst c4
  have H1 : (some false) = some r := by rw [if_neg (show ¬ (false = true) by decide)] at H; exact H
  clear H
  have H := H1
  clear H1
  obtain rfl := Option.some.inj H
  go_enter Try.func88, Try.ntmps88
  go_wp2_with (first | ((with_reducible refine gate_dst (N := 2) rfl ?_); refine box_event ?hg (N := 2) ?hd (cs := #[.slice A0_0 l0_0.length c0_0]) (t := 68) ?hr ?_; (case hd => rfl); (case hg => rfl); (case hr => exact g10); intro gb194 hg w29 hbox hb; have n_ := spec_DepthOf.K4_ (below_step (g4 HB.out) hb) hbox ((g11 HB.out : w.heap.size ≤ gb194)) ((g11 HB.out : w.heap.size ≤ gb194)); clear HB; obtain ⟨HB, BK194, GW194, GE194⟩ := n_; clear hb hbox hg; have hcz30_0 : w29.cell? ⟨gb194, 0, none⟩ = some (.slice A0_0 l0_0.length c0_0) := (blk_cell BK194.out 0).trans rfl; have hfz30_0 := blk_frozen BK194.out 0) | ((with_reducible refine gate_callee (f := 54) rfl ?_); refine goesL_ (some 8) rfl rfl Try.func54 (by kernel_rfl) rfl #[.int .i64 (l0_0.length : Int), .int .i64 1, .int .i64 31] rfl (g9) ?_; (with_reducible refine (spec_l1In.calls (l0_0.length : Int) 1 31 false _ A3.out).mono ?_); rintro e w' ⟨rfl, ⟨nd, rfl⟩⟩; refine ⟨_, rfl, ?_⟩))
  go_ret
  exact ⟨g5, g12 HB.out GE194.out⟩
 subst c4
 have H1 : ((spec_l1In.f a1 0 4).bind fun t196 => (if t196 = true then ((spec_l17Shape.f k l0_0 a1).bind fun t197 => (if t197 = true then ((spec_DepthOf.f k l0_0).bind fun t198 => (if t198 ≤ 4 then ((spec_l17Ways.f k l0_0).bind fun t199 => (some t199)) else (some false))) else (some false))) else (some false))) = some r := by rw [if_pos rfl] at H; exact H
 clear H
 have H := H1
 clear H1
 replace H := Option.bind_eq_some_iff.mp H
 obtain ⟨t196, A50, H⟩ := H
 replace H : (if t196 = true then ((spec_l17Shape.f k l0_0 a1).bind fun t197 => (if t197 = true then ((spec_DepthOf.f k l0_0).bind fun t198 => (if t198 ≤ 4 then ((spec_l17Ways.f k l0_0).bind fun t199 => (some t199)) else (some false))) else (some false))) else (some false)) = some r := H
 have A5 := Aside0.mk A50
 clear A50
 by_cases c6 : t196 = true
 case neg =>
  replace c6 := Bool.eq_false_iff.mpr c6
  subst c6
  have H1 : (some false) = some r := by rw [if_neg (show ¬ (false = true) by decide)] at H; exact H
  clear H
  have H := H1
  clear H1
  obtain rfl := Option.some.inj H
  go_enter Try.func88, Try.ntmps88
  go_wp2_with (first | ((with_reducible refine gate_dst (N := 2) rfl ?_); refine box_event ?hg (N := 2) ?hd (cs := #[.slice A0_0 l0_0.length c0_0]) (t := 68) ?hr ?_; (case hd => rfl); (case hg => rfl); (case hr => exact g10); intro gb194 hg w27 hbox hb; have n_ := spec_DepthOf.K4_ (below_step (g4 HB.out) hb) hbox ((g11 HB.out : w.heap.size ≤ gb194)) ((g11 HB.out : w.heap.size ≤ gb194)); clear HB; obtain ⟨HB, BK194, GW194, GE194⟩ := n_; clear hb hbox hg; have hcz28_0 : w27.cell? ⟨gb194, 0, none⟩ = some (.slice A0_0 l0_0.length c0_0) := (blk_cell BK194.out 0).trans rfl; have hfz28_0 := blk_frozen BK194.out 0) | ((with_reducible refine gate_callee (f := 54) rfl ?_); refine goesL_ (some 8) rfl rfl Try.func54 (by kernel_rfl) rfl #[.int .i64 (l0_0.length : Int), .int .i64 1, .int .i64 31] rfl (g9) ?_; (with_reducible refine (spec_l1In.calls (l0_0.length : Int) 1 31 true _ A3.out).mono ?_); rintro e w' ⟨rfl, ⟨nd, rfl⟩⟩; refine ⟨_, rfl, ?_⟩) | (go_at_call 54; (with_reducible refine (spec_l1In.calls a1 0 4 false _ A5.out).mono ?_); rintro e w' ⟨rfl, ⟨nd, rfl⟩⟩))
  go_ret
  exact ⟨g5, g12 HB.out GE194.out⟩
 subst c6
 have H1 : ((spec_l17Shape.f k l0_0 a1).bind fun t197 => (if t197 = true then ((spec_DepthOf.f k l0_0).bind fun t198 => (if t198 ≤ 4 then ((spec_l17Ways.f k l0_0).bind fun t199 => (some t199)) else (some false))) else (some false))) = some r := by rw [if_pos rfl] at H; exact H
 clear H
 have H := H1
 clear H1
 replace H := Option.bind_eq_some_iff.mp H
 obtain ⟨t197, A70, H⟩ := H
 replace H : (if t197 = true then ((spec_DepthOf.f k l0_0).bind fun t198 => (if t198 ≤ 4 then ((spec_l17Ways.f k l0_0).bind fun t199 => (some t199)) else (some false))) else (some false)) = some r := H
 have A7 := Aside0.mk A70
 clear A70
 by_cases c8 : t197 = true
 case neg =>
  replace c8 := Bool.eq_false_iff.mpr c8
  subst c8
  have H1 : (some false) = some r := by rw [if_neg (show ¬ (false = true) by decide)] at H; exact H
  clear H
  have H := H1
  clear H1
  obtain rfl := Option.some.inj H
  go_enter Try.func88, Try.ntmps88
  go_wp2_with (first | ((with_reducible refine gate_dst (N := 2) rfl ?_); refine box_event ?hg (N := 2) ?hd (cs := #[.slice A0_0 l0_0.length c0_0]) (t := 68) ?hr ?_; (case hd => rfl); (case hg => rfl); (case hr => exact g10); intro gb194 hg w24 hbox hb; have n_ := spec_DepthOf.K4_ (below_step (g4 HB.out) hb) hbox ((g11 HB.out : w.heap.size ≤ gb194)) ((g11 HB.out : w.heap.size ≤ gb194)); clear HB; obtain ⟨HB, BK194, GW194, GE194⟩ := n_; clear hb hbox hg; have hcz25_0 : w24.cell? ⟨gb194, 0, none⟩ = some (.slice A0_0 l0_0.length c0_0) := (blk_cell BK194.out 0).trans rfl; have hfz25_0 := blk_frozen BK194.out 0) | ((with_reducible refine gate_callee (f := 54) rfl ?_); refine goesL_ (some 8) rfl rfl Try.func54 (by kernel_rfl) rfl #[.int .i64 (l0_0.length : Int), .int .i64 1, .int .i64 31] rfl (g9) ?_; (with_reducible refine (spec_l1In.calls (l0_0.length : Int) 1 31 true _ A3.out).mono ?_); rintro e w' ⟨rfl, ⟨nd, rfl⟩⟩; refine ⟨_, rfl, ?_⟩) | (go_at_call 54; (with_reducible refine (spec_l1In.calls a1 0 4 true _ A5.out).mono ?_); rintro e w' ⟨rfl, ⟨nd, rfl⟩⟩) | (go_at_call 123; (with_reducible refine (spec_l17Shape.calls k _ _ l0_0 a1 false _ ?side1 ?side2 A7.out).mono ?_); (case side1 => exact g23 HR0_0.out HB.out GE194.out); (case side2 => exact HC0_0.out); rintro e w26 ⟨rfl, hb⟩; have n_ := spec_DepthOf.K2_ (blk_below (g := gb194) (o := .cells #[.slice A0_0 l0_0.length c0_0] 68 (0, 0)) (g2 BK194.out) hb) (below_step (g12 HB.out GE194.out) hb); clear BK194 HB; obtain ⟨BK194, HB⟩ := n_; (try clear hb); (try clear hb2); (try clear hk); (try clear hi)))
  go_ret
  exact ⟨g5, g12 HB.out GE194.out⟩
 subst c8
 have H1 : ((spec_DepthOf.f k l0_0).bind fun t198 => (if t198 ≤ 4 then ((spec_l17Ways.f k l0_0).bind fun t199 => (some t199)) else (some false))) = some r := by rw [if_pos rfl] at H; exact H
 clear H
 have H := H1
 clear H1
 replace H := Option.bind_eq_some_iff.mp H
 obtain ⟨t198, A90, H⟩ := H
 replace H : (if t198 ≤ 4 then ((spec_l17Ways.f k l0_0).bind fun t199 => (some t199)) else (some false)) = some r := H
 have A9 := Aside0.mk A90
 clear A90
 by_cases c10 : t198 ≤ 4
 case neg =>
  rw [if_neg c10] at H
  have c10b0 : decide (t198 ≤ 4) = false := decide_eq_false c10
  clear c10
  obtain rfl := Option.some.inj H
  go_enter Try.func88, Try.ntmps88
  go_wp2_with (first | ((with_reducible refine gate_dst (N := 2) rfl ?_); refine box_event ?hg (N := 2) ?hd (cs := #[.slice A0_0 l0_0.length c0_0]) (t := 68) ?hr ?_; (case hd => rfl); (case hg => rfl); (case hr => exact g10); intro gb194 hg w19 hbox hb; have n_ := spec_DepthOf.K4_ (below_step (g4 HB.out) hb) hbox ((g11 HB.out : w.heap.size ≤ gb194)) ((g11 HB.out : w.heap.size ≤ gb194)); clear HB; obtain ⟨HB, BK194, GW194, GE194⟩ := n_; clear hb hbox hg; have hcz20_0 : w19.cell? ⟨gb194, 0, none⟩ = some (.slice A0_0 l0_0.length c0_0) := (blk_cell BK194.out 0).trans rfl; have hfz20_0 := blk_frozen BK194.out 0) | ((with_reducible refine gate_callee (f := 54) rfl ?_); refine goesL_ (some 8) rfl rfl Try.func54 (by kernel_rfl) rfl #[.int .i64 (l0_0.length : Int), .int .i64 1, .int .i64 31] rfl (g9) ?_; (with_reducible refine (spec_l1In.calls (l0_0.length : Int) 1 31 true _ A3.out).mono ?_); rintro e w' ⟨rfl, ⟨nd, rfl⟩⟩; refine ⟨_, rfl, ?_⟩) | (go_at_call 54; (with_reducible refine (spec_l1In.calls a1 0 4 true _ A5.out).mono ?_); rintro e w' ⟨rfl, ⟨nd, rfl⟩⟩) | (go_at_call 123; (with_reducible refine (spec_l17Shape.calls k _ _ l0_0 a1 true _ ?side1 ?side2 A7.out).mono ?_); (case side1 => exact g23 HR0_0.out HB.out GE194.out); (case side2 => exact HC0_0.out); rintro e w21 ⟨rfl, hb⟩; have n_ := spec_DepthOf.K2_ (blk_below (g := gb194) (o := .cells #[.slice A0_0 l0_0.length c0_0] 68 (0, 0)) (g2 BK194.out) hb) (below_step (g12 HB.out GE194.out) hb); clear BK194 HB; obtain ⟨BK194, HB⟩ := n_; (try clear hb); (try clear hb2); (try clear hk); (try clear hi); have hcz22_0 : w21.cell? ⟨gb194, 0, none⟩ = some (.slice A0_0 l0_0.length c0_0) := (blk_cell BK194.out 0).trans rfl; have hfz22_0 := blk_frozen BK194.out 0) | (go_at_call 124; (with_reducible refine (spec_DepthOf.calls k _ _ l0_0 t198 _ ?side1 ?side2 A9.out).mono ?_); (case side1 => exact g20 HR0_0.out HB.out); (case side2 => exact HC0_0.out); rintro e w23 ⟨rfl, hb⟩; have n_ := spec_DepthOf.K2_ (blk_below (g := gb194) (o := .cells #[.slice A0_0 l0_0.length c0_0] 68 (0, 0)) (g2 BK194.out) hb) (below_step (g12 HB.out GE194.out) hb); clear BK194 HB; obtain ⟨BK194, HB⟩ := n_; (try clear hb); (try clear hb2); (try clear hk); (try clear hi)))
  go_ret
  exact ⟨g5, g12 HB.out GE194.out⟩
 rw [if_pos c10] at H
 have c10b0 : decide (t198 ≤ 4) = true := decide_eq_true c10
 clear c10
 replace H := Option.bind_eq_some_iff.mp H
 obtain ⟨t199, A110, H⟩ := H
 replace H : (some t199) = some r := H
 have A11 := Aside0.mk A110
 clear A110
 obtain rfl := Option.some.inj H
 go_enter Try.func88, Try.ntmps88
 go_wp2_with (first | ((with_reducible refine gate_dst (N := 2) rfl ?_); refine box_event ?hg (N := 2) ?hd (cs := #[.slice A0_0 l0_0.length c0_0]) (t := 68) ?hr ?_; (case hd => rfl); (case hg => rfl); (case hr => exact g10); intro gb194 hg w12 hbox hb; have n_ := spec_DepthOf.K4_ (below_step (g4 HB.out) hb) hbox ((g11 HB.out : w.heap.size ≤ gb194)) ((g11 HB.out : w.heap.size ≤ gb194)); clear HB; obtain ⟨HB, BK194, GW194, GE194⟩ := n_; clear hb hbox hg; have hcz13_0 : w12.cell? ⟨gb194, 0, none⟩ = some (.slice A0_0 l0_0.length c0_0) := (blk_cell BK194.out 0).trans rfl; have hfz13_0 := blk_frozen BK194.out 0) | ((with_reducible refine gate_callee (f := 54) rfl ?_); refine goesL_ (some 8) rfl rfl Try.func54 (by kernel_rfl) rfl #[.int .i64 (l0_0.length : Int), .int .i64 1, .int .i64 31] rfl (g9) ?_; (with_reducible refine (spec_l1In.calls (l0_0.length : Int) 1 31 true _ A3.out).mono ?_); rintro e w' ⟨rfl, ⟨nd, rfl⟩⟩; refine ⟨_, rfl, ?_⟩) | (go_at_call 54; (with_reducible refine (spec_l1In.calls a1 0 4 true _ A5.out).mono ?_); rintro e w' ⟨rfl, ⟨nd, rfl⟩⟩) | (go_at_call 123; (with_reducible refine (spec_l17Shape.calls k _ _ l0_0 a1 true _ ?side1 ?side2 A7.out).mono ?_); (case side1 => exact g23 HR0_0.out HB.out GE194.out); (case side2 => exact HC0_0.out); rintro e w14 ⟨rfl, hb⟩; have n_ := spec_DepthOf.K2_ (blk_below (g := gb194) (o := .cells #[.slice A0_0 l0_0.length c0_0] 68 (0, 0)) (g2 BK194.out) hb) (below_step (g12 HB.out GE194.out) hb); clear BK194 HB; obtain ⟨BK194, HB⟩ := n_; (try clear hb); (try clear hb2); (try clear hk); (try clear hi); have hcz15_0 : w14.cell? ⟨gb194, 0, none⟩ = some (.slice A0_0 l0_0.length c0_0) := (blk_cell BK194.out 0).trans rfl; have hfz15_0 := blk_frozen BK194.out 0) | (go_at_call 124; (with_reducible refine (spec_DepthOf.calls k _ _ l0_0 t198 _ ?side1 ?side2 A9.out).mono ?_); (case side1 => exact g20 HR0_0.out HB.out); (case side2 => exact HC0_0.out); rintro e w16 ⟨rfl, hb⟩; have n_ := spec_DepthOf.K2_ (blk_below (g := gb194) (o := .cells #[.slice A0_0 l0_0.length c0_0] 68 (0, 0)) (g2 BK194.out) hb) (below_step (g12 HB.out GE194.out) hb); clear BK194 HB; obtain ⟨BK194, HB⟩ := n_; (try clear hb); (try clear hb2); (try clear hk); (try clear hi); have hcz17_0 : w16.cell? ⟨gb194, 0, none⟩ = some (.slice A0_0 l0_0.length c0_0) := (blk_cell BK194.out 0).trans rfl; have hfz17_0 := blk_frozen BK194.out 0) | (go_at_call 125; (with_reducible refine (spec_l17Ways.calls k _ _ l0_0 t199 _ ?side1 ?side2 A11.out).mono ?_); (case side1 => exact g20 HR0_0.out HB.out); (case side2 => exact HC0_0.out); rintro e w18 ⟨rfl, hb⟩; have n_ := spec_DepthOf.K2_ (blk_below (g := gb194) (o := .cells #[.slice A0_0 l0_0.length c0_0] 68 (0, 0)) (g2 BK194.out) hb) (below_step (g12 HB.out GE194.out) hb); clear BK194 HB; obtain ⟨BK194, HB⟩ := n_; (try clear hb); (try clear hb2); (try clear hk); (try clear hi)))
 go_ret
 exact ⟨g5, g12 HB.out GE194.out⟩
end Go.Proofs.Yteoikmbdpofhmaa.XFnUses
