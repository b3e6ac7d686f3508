import Derived.Test.YteoikmbdpofhmaaVFnUsesXx0
import Derived.Test.YteoikmbdpofhmaaVFnUsesXx2
import Derived.Test.YteoikmbdpofhmaaVFnUsesXx10
namespace Go.Proofs.Yteoikmbdpofhmaa.XFnUses
open Go.RowKit Go.Proofs.YteoikmbdpofhmaaW.PrintWords Go.Proofs.YteoikmbdpofhmaaW.PrintLast Go.Proofs.YteoikmbdpofhmaaW.PrintMore
attribute [local go_sem] max2_int min2_int max_two min_two max_three min_three max_four min_four
set_option linter.unusedVariables false
set_option linter.unusedSimpArgs false
theorem slices_SortStableFunc_int_int_fc_81_46.z0 {p : Prop} (h : p := by rw [hg]; exact Nat.ne_of_lt (blk_lt (g := gb441) (o := .cells #[.slice A0_0 l0_0.length c0_0, .slice A0_1 l0_1.length c0_1, .int .i64 a0_2, .slice (some ad442) l0_3.length c0_3] 46 (0, 0)) (g2 BK441.out))) : p := h
theorem slices_SortStableFunc_int_int_fc_81_46.z1 {p : Prop} (h : p := by rw [hg]; exact Nat.ne_of_gt (blk_lt (g := gb441) (o := .cells #[.slice A0_0 l0_0.length c0_0, .slice A0_1 l0_1.length c0_1, .int .i64 a0_2, .slice (some ad442) l0_3.length c0_3] 46 (0, 0)) (g2 BK441.out))) : p := h
theorem slices_SortStableFunc_int_int_fc_81_46.z2 {p : Prop} (h : p := by (with_reducible repeat (first | refine blk_drewN ?_ _ | refine blk_drew ?_ | refine blk_alloc ?_ _)); refine blk_put (cs := #[.int .i64 ((rd_T93 ((rd_T68 l0_3 x6_1).f0) x7_2).f0), .int .i64 ((rd_T93 ((rd_T68 l0_3 x6_1).f0) x7_2).f1), .int .i64 ((rd_T93 ((rd_T68 l0_3 x6_1).f0) x7_2).f2), .int .i64 ((rd_T93 ((rd_T68 l0_3 x6_1).f0) x7_2).f3), .int .i64 0]) ?_ 4 _ rfl; (with_reducible repeat (first | refine blk_drewN ?_ _ | refine blk_drew ?_ | refine blk_alloc ?_ _)); refine blk_put (cs := #[.int .i64 ((rd_T93 ((rd_T68 l0_3 x6_1).f0) x7_2).f0), .int .i64 ((rd_T93 ((rd_T68 l0_3 x6_1).f0) x7_2).f1), .int .i64 ((rd_T93 ((rd_T68 l0_3 x6_1).f0) x7_2).f2), .int .i64 0, .int .i64 0]) ?_ 3 _ rfl; (with_reducible repeat (first | refine blk_drewN ?_ _ | refine blk_drew ?_ | refine blk_alloc ?_ _)); refine blk_put (cs := #[.int .i64 ((rd_T93 ((rd_T68 l0_3 x6_1).f0) x7_2).f0), .int .i64 ((rd_T93 ((rd_T68 l0_3 x6_1).f0) x7_2).f1), .int .i64 0, .int .i64 0, .int .i64 0]) ?_ 2 _ rfl; (with_reducible repeat (first | refine blk_drewN ?_ _ | refine blk_drew ?_ | refine blk_alloc ?_ _)); refine blk_put (cs := #[.int .i64 ((rd_T93 ((rd_T68 l0_3 x6_1).f0) x7_2).f0), .int .i64 0, .int .i64 0, .int .i64 0, .int .i64 0]) ?_ 1 _ rfl; (with_reducible repeat (first | refine blk_drewN ?_ _ | refine blk_drew ?_ | refine blk_alloc ?_ _)); refine blk_put (cs := #[.int .i64 0, .int .i64 0, .int .i64 0, .int .i64 0, .int .i64 0]) ?_ 0 _ rfl; (with_reducible repeat (first | refine blk_drewN ?_ _ | refine blk_drew ?_ | refine blk_alloc ?_ _)); exact BK445.out) : p := h
theorem slices_SortStableFunc_int_int_fc_81_46.K3_ {p0 p1 p2 : Prop} (h0 : p0) (h1 : p1) (h2 : p2) : Aside0 p0 ∧ Aside0 p1 ∧ Aside0 p2 := ⟨⟨h0⟩, ⟨h1⟩, ⟨h2⟩⟩
theorem slices_SortStableFunc_int_int_fc_81_46.K4_ {p0 p1 p2 p3 : Prop} (h0 : p0) (h1 : p1) (h2 : p2) (h3 : p3) : Aside0 p0 ∧ Aside0 p1 ∧ Aside0 p2 ∧ Aside0 p3 := ⟨⟨h0⟩, ⟨h1⟩, ⟨h2⟩, ⟨h3⟩⟩
theorem slices_SortStableFunc_int_int_fc_81_46.K7_ {p0 p1 p2 p3 p4 p5 p6 : Prop} (h0 : p0) (h1 : p1) (h2 : p2) (h3 : p3) (h4 : p4) (h5 : p5) (h6 : p6) : Aside0 p0 ∧ Aside0 p1 ∧ Aside0 p2 ∧ Aside0 p3 ∧ Aside0 p4 ∧ Aside0 p5 ∧ Aside0 p6 := ⟨⟨h0⟩, ⟨h1⟩, ⟨h2⟩, ⟨h3⟩, ⟨h4⟩, ⟨h5⟩, ⟨h6⟩⟩
def slices_SortStableFunc_int_int_fc_81_46.f (k : Nat) (l0 : List Int) (l1_0 : List ByteArray) (l1_1 : List Int) (a1_2 : Int) (l1_3 : List (S68)) : Option (List Int) := (slices_stableCmpFunc_int_fc_81_46.f k l0 (l0.length : Int) l1_0 l1_1 a1_2 l1_3).bind fun t432 => (some t432)
set_option maxHeartbeats 8000000 in
set_option maxRecDepth 100000 in
theorem slices_SortStableFunc_int_int_fc_81_46.calls (k : Nat) (P0_ : Nat → Prop) (u9000_ : Value) (l0 : List Int) (g1_0_ : Nat) (A1_0 : Option Addr) (c1_0 : Nat) (l1_0 : List ByteArray) (A1_1 : Option Addr) (c1_1 : Nat) (l1_1 : List Int) (a1_2 : Int) (A1_3 : Option Addr) (c1_3 : Nat) (l1_3 : List (S68)) (r : List Int) (w0 w : World) (hB : Below w0.heap.size w0 w) (ho0 : Kd.R (Kd.int .i64) 3 w w0.heap.size P0_ u9000_ l0) (hk1_0 : w.heap[g1_0_]? = some (.cells #[.slice A1_0 l1_0.length c1_0, .slice A1_1 l1_1.length c1_1, .int .i64 a1_2, .slice A1_3 l1_3.length c1_3] 46 (0, 0))) (hr1_0 : ∀ W_, Kept w W_ (fun k_ => P0_ k_) → Kd.C Kd.string W_ A1_0 l1_0.length l1_0) (hc1_0 : l1_0.length ≤ c1_0) (hr1_1 : ∀ W_, Kept w W_ (fun k_ => P0_ k_) → Kd.C (Kd.int .i64) W_ A1_1 l1_1.length l1_1) (hc1_1 : l1_1.length ≤ c1_1) (hr1_3 : ∀ W_, Kept w W_ (fun k_ => P0_ k_) → Kd.C k68 W_ A1_3 l1_3.length l1_3) (hc1_3 : l1_3.length ≤ c1_3) (h : slices_SortStableFunc_int_int_fc_81_46.f k l0 l1_0 l1_1 a1_2 l1_3 = some r) :
    Calls Try.prog 80 #[u9000_, .func (.func 81) #[] #[.pointer (some ⟨g1_0_, 0, none⟩)]] w fun e w' => e = .returned (.tuple #[]) ∧ Kd.R (Kd.int .i64) 3 w' w0.heap.size (fun k_ => (P0_ k_ ∨ w.heap.size ≤ k_)) u9000_ r ∧ Below w0.heap.size w0 w' ∧ Kept w w' (fun k_ => P0_ k_) := by
 have HO0 := Aside0.mk (show Kd.R (Kd.int .i64) 3 w w0.heap.size (fun k_ => (P0_ k_ ∨ w.heap.size ≤ k_)) u9000_ l0 from Kd.R_mono ho0 (fun k_ hk => (.inl hk)))
 have HR1_0 := Aside0.mk hr1_0
 have HC1_0 := Aside0.mk hc1_0
 clear hr1_0 hc1_0
 have HR1_1 := Aside0.mk hr1_1
 have HC1_1 := Aside0.mk hc1_1
 clear hr1_1 hc1_1
 have HR1_3 := Aside0.mk hr1_3
 have HC1_3 := Aside0.mk hc1_3
 clear hr1_3 hc1_3
 have BK90010 := Aside0.mk hk1_0
 clear hk1_0
 have HK := Aside0.mk (Kept.refl w (fun k_ => P0_ k_))
 have HW0 := Aside0.mk hB.size
 have HB := Aside0.mk hB
 clear hB
 have H : ((slices_stableCmpFunc_int_fc_81_46.f k l0 (l0.length : Int) l1_0 l1_1 a1_2 l1_3).bind fun t432 => (some t432)) = some r := h
 clear h
 replace H := Option.bind_eq_some_iff.mp H
 obtain ⟨t432, A30, H⟩ := H
 replace H : (some t432) = some r := H
 have A3 := Aside0.mk A30
 clear A30
 obtain rfl := Option.some.inj H
 obtain ⟨Ao4, co4, eo4⟩ := Kd.R_slice HO0.out
 subst eo4
 go_enter Try.func80, Try.ntmps80
 go_wp2_with (first | ((with_reducible refine gate_callee (f := 118) rfl ?_); refine goesL_ (some 8) rfl rfl Try.func118 (by kernel_rfl) rfl #[.slice Ao4 l0.length co4, .int .i64 (l0.length : Int), .func (.func 81) #[] #[.pointer (some ⟨g1_0_, 0, none⟩)]] rfl (g9) ?_; (with_reducible refine (slices_stableCmpFunc_int_fc_81_46.calls k (fun k_ => some k_ = (.slice Ao4 l0.length co4 : Value).ownBlock) (.slice Ao4 l0.length co4) l0 (l0.length : Int) g1_0_ A1_0 c1_0 l1_0 A1_1 c1_1 l1_1 a1_2 A1_3 c1_3 l1_3 t432 w0 _ ?side1 ?side2 ?side3 ?side4 ?side5 ?side6 ?side7 ?side8 ?side9 A3.out).mono ?_); (case side1 => exact g4 HB.out); (case side2 => exact Kd.R_tight rfl HO0.out); (case side3 => exact g7 BK90010.out); (case side4 => exact Kd.C_kept_call HR1_0.out (g3 HK.out) (fun k_ hs_ => (fun e_ => (HO0.out.1 k_ e_.symm)) hs_)); (case side5 => exact HC1_0.out); (case side6 => exact Kd.C_kept_call HR1_1.out (g3 HK.out) (fun k_ hs_ => (fun e_ => (HO0.out.1 k_ e_.symm)) hs_)); (case side7 => exact HC1_1.out); (case side8 => exact Kd.C_kept_call HR1_3.out (g3 HK.out) (fun k_ hs_ => (fun e_ => (HO0.out.1 k_ e_.symm)) hs_)); (case side9 => exact HC1_3.out); rintro e w5 ⟨rfl, hy0, hb, hkp⟩; refine ⟨_, rfl, ?_⟩; have n_ := slices_SortStableFunc_int_int_fc_81_46.K4_ (blk_kept (g2 BK90010.out) hkp (fun hs_ => (fun e_ => (Kd.R_ne HO0.out BK90010.out (by decide)) e_) hs_)) (Kd.R_reok rfl hy0 (fun k_ e_ => HO0.out.1 k_ e_)) (Kept.then_ (S := (fun k_ => P0_ k_)) (g3 HK.out) hkp (fun k_ hs_ => (fun e_ => (HO0.out.1 k_ e_.symm)) hs_)) hb; clear BK90010 HO0 HK HB; obtain ⟨BK90010, HO0, HK, HB⟩ := n_; (try clear hb); (try clear hkp); (try clear hy0)))
 first | go_end0 | ((try simp only [Exit.inBlock, Exit.then]); refine bodyPost_ret (results_none rfl _ _ _) rfl ?_)
 exact ⟨g5, g1 HO0.out, g4 HB.out, g3 HK.out⟩
def impl_Ranked.l0 : Nat → List Int → Int → Int → List ByteArray → List Int → Int → List (S68) → Option (List Int)
  | 0, _, _, _, _, _, _, _ => none
  | k + 1, x3, x8, x9, x434000, x434001, x434002, x434003 => if x9 < x8 then (if x3.length < 17592186044416 then (impl_Ranked.l0 k (x3 ++ [x9]) x8 (wrap64 (x9 + 1)) x434000 x434001 x434002 x434003) else (none)) else ((slices_SortStableFunc_int_int_fc_81_46.f k x3 x434000 x434001 x434002 x434003).bind fun t440 => (some t440))
def impl_Ranked.f (k : Nat) (l0_0 : List ByteArray) (l0_1 : List Int) (a0_2 : Int) (l0_3 : List (S68)) : Option (List Int) := impl_Ranked.l0 k (([] : List Int)) (l0_0.length : Int) 0 l0_0 l0_1 a0_2 l0_3
set_option maxHeartbeats 8000000 in
set_option maxRecDepth 100000 in
theorem impl_Ranked.calls (k : Nat) (A0_0 : Option Addr) (c0_0 : Nat) (l0_0 : List ByteArray) (A0_1 : Option Addr) (c0_1 : Nat) (l0_1 : List Int) (a0_2 : Int) (A0_3 : Option Addr) (c0_3 : Nat) (l0_3 : List (S68)) (r : List Int) (w : World) (hr0_0 : Kd.C Kd.string w A0_0 l0_0.length l0_0) (hc0_0 : l0_0.length ≤ c0_0) (hr0_1 : Kd.C (Kd.int .i64) w A0_1 l0_1.length l0_1) (hc0_1 : l0_1.length ≤ c0_1) (hr0_3 : Kd.C k68 w A0_3 l0_3.length l0_3) (hc0_3 : l0_3.length ≤ c0_3) (h : impl_Ranked.f k l0_0 l0_1 a0_2 l0_3 = some r) :
    Calls Try.prog 29 #[.agg #[.slice A0_0 l0_0.length c0_0, .slice A0_1 l0_1.length c0_1, .int .i64 a0_2, .slice A0_3 l0_3.length c0_3]] w fun e w' => ∃ v0_ : Value, e = .returned (v0_) ∧ Kd.R (Kd.int .i64) 3 w' w.heap.size (fun _ => True) v0_ r ∧ Below w.heap.size w w' := by
 have hu46 := Try.underlying46
 have HR0_0 := Aside0.mk hr0_0
 have HC0_0 := Aside0.mk hc0_0
 clear hr0_0 hc0_0
 have HR0_1 := Aside0.mk hr0_1
 have HC0_1 := Aside0.mk hc0_1
 clear hr0_1 hc0_1
 have HR0_3 := Aside0.mk hr0_3
 have HC0_3 := Aside0.mk hc0_3
 clear hr0_3 hc0_3
 have HB := Aside0.mk (Below.refl w.heap.size w)
 have H : (impl_Ranked.l0 k (([] : List Int)) (l0_0.length : Int) 0 l0_0 l0_1 a0_2 l0_3) = some r := h
 clear h
 obtain ⟨y434, hy434⟩ : ∃ y_ : List Int, y_ = (([] : List Int)) := ⟨_, rfl⟩
 replace H : (impl_Ranked.l0 k y434 (l0_0.length : Int) 0 l0_0 l0_1 a0_2 l0_3) = some r := by first | (rw [hy434]; with_reducible exact H) | (have H2_ := (Option.bind_some _ _).symm.trans H; rw [hy434]; with_reducible exact H2_) | (have H2_ := (Option.bind_some _ _).symm.trans H; with_reducible exact H2_) | with_reducible exact H | (rw [hy434]; exact H) | exact H
 have Ny434 := Aside0.mk hy434
 clear hy434
 have H' := Aside0.mk H
 clear H
 go_enter Try.func29, Try.ntmps29
 go_wp2_with (first | ((with_reducible refine gate_dst (N := 1) rfl ?_); refine box_event ?hg (N := 1) ?hd (cs := #[.slice A0_0 l0_0.length c0_0, .slice A0_1 l0_1.length c0_1, .int .i64 a0_2, .slice A0_3 l0_3.length c0_3]) (t := 46) ?hr ?_; (case hd => rfl); (case hg => rfl); (case hr => exact g10); intro gb433 hg w2 hbox hb; have n_ := slices_SortStableFunc_int_int_fc_81_46.K4_ (below_step (g4 HB.out) hb) hbox ((g11 HB.out : w.heap.size ≤ gb433)) ((g11 HB.out : w.heap.size ≤ gb433)); clear HB; obtain ⟨HB, BK433, GW433, GE433⟩ := n_; clear hb hbox hg) | ((with_reducible refine gate_dst (N := 5) rfl ?_); refine Kd.R_lit (Kd.int .i64) _ 3 ?hg (N := 5) ?hd (xs := ([] : List Int)) (inner := []) (ok := fun _ => True) (okp := fun _ => True) ?hr ?hp (fun _ hk => hk) trivial (Below.refl _ _) (Nat.le_refl _) (by simp) ?_; (case hd => rfl); (case hg => rfl); (case hr => exact g10); (case hp => exact (Reps.none _ _)); intro v435 w3 ho4 hb hg_ hnew_; clear hg_ hnew_; (first | rw [← Ny434.out] at ho4 | (simp only [Int.reduceToNat] at ho4; rw [← Ny434.out] at ho4)); have n_ := slices_SortStableFunc_int_int_fc_81_46.K3_ (Kd.R_lower ho4 (below_size (g12 HB.out GE433.out))) (blk_below (g := gb433) (o := .cells #[.slice A0_0 l0_0.length c0_0, .slice A0_1 l0_1.length c0_1, .int .i64 a0_2, .slice A0_3 l0_3.length c0_3] 46 (0, 0)) (g2 BK433.out) hb) (below_step (g12 HB.out GE433.out) hb); clear BK433 HB; obtain ⟨HO436, BK433, HB⟩ := n_; clear hb ho4; have hcz5_0 : w3.cell? ⟨gb433, 0, none⟩ = some (.slice A0_0 l0_0.length c0_0) := (blk_cell BK433.out 0).trans rfl; have hcz5_1 : w3.cell? ⟨gb433, 1, none⟩ = some (.slice A0_1 l0_1.length c0_1) := (blk_cell BK433.out 1).trans rfl; have hcz5_2 : w3.cell? ⟨gb433, 2, none⟩ = some (.int .i64 a0_2) := (blk_cell BK433.out 2).trans rfl; have hcz5_3 : w3.cell? ⟨gb433, 3, none⟩ = some (.slice A0_3 l0_3.length c0_3) := (blk_cell BK433.out 3).trans rfl; have hfz5_0 := blk_frozen BK433.out 0; have hfz5_1 := blk_frozen BK433.out 1; have hfz5_2 := blk_frozen BK433.out 2; have hfz5_3 := blk_frozen BK433.out 3))
 go_loopg [3, 9] k (fun kq v3 v9 w' => ∃ (x3_1 : List Int) (x9_1 : Int), v9 = .int .i64 x9_1 ∧ Aside0 (impl_Ranked.l0 kq x3_1 (l0_0.length : Int) x9_1 l0_0 l0_1 a0_2 l0_3 = some r) ∧ Aside0 (kq ≤ k) ∧ Aside0 (Kd.R (Kd.int .i64) 3 w' w.heap.size (fun _ => True) v3 x3_1) ∧ Aside0 (w'.heap[gb433]? = some (.cells #[(.slice A0_0 l0_0.length c0_0), (.slice A0_1 l0_1.length c0_1), .int .i64 a0_2, (.slice A0_3 l0_3.length c0_3)] 46 (0, 0))) ∧ Aside0 (Below w.heap.size w w'))
 case atStart => exact ⟨(y434), (0), (g0), H', ⟨Nat.le_refl _⟩, ⟨g1 HO436.out⟩, ⟨g2 BK433.out⟩, ⟨g12 HB.out GE433.out⟩⟩
 case round =>
  clear H'
  try clear c2
  try clear p2
  try clear hcz5_0
  try clear hcz5_1
  try clear hcz5_2
  try clear hcz5_3
  try clear hfz5_0
  try clear hfz5_1
  try clear hfz5_2
  try clear hfz5_3
  obtain ⟨x3_1, x9_1, rfl, HA, HK1, HO_3, BK433, HB⟩ := hrel
  cases gk with
  | zero => exact absurd HA.out (by simp [impl_Ranked.l0])
  | succ k1 =>
   have H := HA.out
   clear HA
   simp only [impl_Ranked.l0] at H
   by_cases c6 : x9_1 < (l0_0.length : Int)
   case neg =>
    rw [if_neg c6] at H
    have c6b0 : decide (x9_1 < (l0_0.length : Int)) = false := decide_eq_false c6
    clear c6
    replace H := Option.bind_eq_some_iff.mp H
    obtain ⟨t440, A90, H⟩ := H
    replace H : (some t440) = some r := H
    have A9 := Aside0.mk A90
    clear A90
    obtain rfl := Option.some.inj H
    obtain ⟨Ao10, co10, eo10⟩ := Kd.R_slice HO_3.out
    subst eo10
    go_wp2_with (first | ((with_reducible refine gate_callee (f := 80) rfl ?_); refine goesL_ (some 19) rfl rfl Try.func80 (by kernel_rfl) rfl #[.slice Ao10 x3_1.length co10, .func (.func 81) #[] #[.pointer (some ⟨gb433, 0, none⟩)]] rfl (g9) ?_; (with_reducible refine (slices_SortStableFunc_int_int_fc_81_46.calls k1 (fun k_ => some k_ = (.slice Ao10 x3_1.length co10 : Value).ownBlock) (.slice Ao10 x3_1.length co10) x3_1 gb433 A0_0 c0_0 l0_0 A0_1 c0_1 l0_1 a0_2 A0_3 c0_3 l0_3 t440 w _ ?side1 ?side2 ?side3 ?side4 ?side5 ?side6 ?side7 ?side8 ?side9 A9.out).mono ?_); (case side1 => exact g12 HB.out GE433.out); (case side2 => exact Kd.R_tight rfl HO_3.out); (case side3 => exact g7 BK433.out); (case side4 => exact Kd.C_kept_came Kd.heap_string HR0_0.out (g12 HB.out GE433.out) (fun k_ hs_ => (fun e_ => Kd.R_base HO_3.out k_ e_.symm) hs_)); (case side5 => exact HC0_0.out); (case side6 => exact Kd.C_kept_came (Kd.heap_int .i64) HR0_1.out (g12 HB.out GE433.out) (fun k_ hs_ => (fun e_ => Kd.R_base HO_3.out k_ e_.symm) hs_)); (case side7 => exact HC0_1.out); (case side8 => exact Kd.C_kept_came k68_heap HR0_3.out (g12 HB.out GE433.out) (fun k_ hs_ => (fun e_ => Kd.R_base HO_3.out k_ e_.symm) hs_)); (case side9 => exact HC0_3.out); rintro e w11 ⟨rfl, hy0, hb, hkp⟩; refine ⟨_, rfl, ?_⟩; have n_ := slices_SortStableFunc_int_int_fc_81_46.K3_ (Kd.R_reok rfl hy0 (fun k_ e_ => HO_3.out.1 k_ e_)) (blk_kept (g2 BK433.out) hkp (fun hs_ => (fun e_ => (Kd.R_ne HO_3.out BK433.out (by decide)) e_) hs_)) hb; clear HO_3 BK433 HB; obtain ⟨HO_3, BK433, HB⟩ := n_; (try clear hb); (try clear hkp); (try clear hy0)))
    go_ret
    exact ⟨_, g5, g1 HO_3.out, g12 HB.out GE433.out⟩
   rw [if_pos c6] at H
   have c6b0 : decide (x9_1 < (l0_0.length : Int)) = true := decide_eq_true c6
   clear c6
   by_cases c7 : x3_1.length < 17592186044416
   case neg =>
    rw [if_neg c7] at H
    exact absurd H (by simp)
   rw [if_pos c7] at H
   have LMc7 := Aside0.mk c7
   clear c7
   obtain ⟨y437, hy437⟩ : ∃ y_ : List Int, y_ = (x3_1 ++ [x9_1]) := ⟨_, rfl⟩
   replace H : (impl_Ranked.l0 k1 y437 (l0_0.length : Int) (wrap64 (x9_1 + 1)) l0_0 l0_1 a0_2 l0_3) = some r := by first | (rw [hy437]; with_reducible exact H) | (have H2_ := (Option.bind_some _ _).symm.trans H; rw [hy437]; with_reducible exact H2_) | (have H2_ := (Option.bind_some _ _).symm.trans H; with_reducible exact H2_) | with_reducible exact H | (rw [hy437]; exact H) | exact H
   have Ny437 := Aside0.mk hy437
   clear hy437
   have H' := Aside0.mk H
   clear H
   go_wp2_with (first | ((with_reducible refine gate_builtin (b := .append) (xs := #[.tmp 12, .tmp 14]) rfl ?_); at_builtin; refine Kd.R_append (Kd.int .i64) (w0 := w) w.heap.size rfl (.tmp 12) (.tmp 14) 26 3 (.int .i64 0) 8 rfl Try.underlying26 info3 rfl (by decide) (by omega) u3 x3_1 x9_1 [.int .i64 x9_1] (fun _ => True) (fun _ => False) rfl rfl ?aP (fun _ hk => hk.elim) ?aF ?aO ?aB ?aS ?aL ?_; (case aP => exact rfl); (case aB => exact g13 HB.out GE433.out); (case aF => exact (fun _ _ => trivial)); (case aO => exact g14 HO_3.out); (case aS => exact g15 HB.out GE433.out); (case aL => have := LMc7.out; omega); intro v438 w8 ho hb hg hat; rw [← Ny437.out] at ho; have n_ := slices_SortStableFunc_int_int_fc_81_46.K3_ (blk_grown (g := gb433) (o := .cells #[.slice A0_0 l0_0.length c0_0, .slice A0_1 l0_1.length c0_1, .int .i64 a0_2, .slice A0_3 l0_3.length c0_3] 46 (0, 0)) (g2 BK433.out) hg (Kd.R_ne HO_3.out BK433.out (by decide))) hb ho; clear BK433 HB HO_3; obtain ⟨BK433, HB, HO439⟩ := n_; clear ho hb hg hat))
   go_roundg k1
   case measure => have := HK1.out; omega
   case rel => exact ⟨(y437), (wrap64 (x9_1 + 1)), (g0), H', ⟨by have := HK1.out; omega⟩, ⟨g1 HO439.out⟩, ⟨g2 BK433.out⟩, ⟨g12 HB.out GE433.out⟩⟩
mutual
def spec_UsesOf.l0 : Nat → Int → Int → Int → List ByteArray → List Int → Int → List (S68) → Option (Int)
  | 0, _, _, _, _, _, _, _ => none
  | k + 1, x1, x5, x6, x442000, x442001, x442002, x442003 => if x6 < (x442003.length : Int) then (spec_UsesOf.l1 k x1 x5 x6 0 x442000 x442001 x442002 x442003) else (some x5)
def spec_UsesOf.l1 : Nat → Int → Int → Int → Int → List ByteArray → List Int → Int → List (S68) → Option (Int)
  | 0, _, _, _, _, _, _, _, _ => none
  | k + 1, x1, x5, x6, x7, x442000, x442001, x442002, x442003 => if 0 ≤ x6 then (if x6 < (x442003.length : Int) then (if x7 < (((rd_T68 x442003 x6).f0).length : Int) then (if 0 ≤ x7 then ((spec_l17Inner.f ((rd_T93 ((rd_T68 x442003 x6).f0) x7).f0) ((rd_T93 ((rd_T68 x442003 x6).f0) x7).f1) ((rd_T93 ((rd_T68 x442003 x6).f0) x7).f2) ((rd_T93 ((rd_T68 x442003 x6).f0) x7).f3) ((rd_T93 ((rd_T68 x442003 x6).f0) x7).f4)).bind fun t446 => (if t446 = true then (if ((rd_T93 ((rd_T68 x442003 x6).f0) x7).f0) = x1 then (spec_UsesOf.l1 k x1 (wrap64 (x5 + 1)) x6 (wrap64 (x7 + 1)) x442000 x442001 x442002 x442003) else (spec_UsesOf.l1 k x1 x5 x6 (wrap64 (x7 + 1)) x442000 x442001 x442002 x442003)) else (spec_UsesOf.l1 k x1 x5 x6 (wrap64 (x7 + 1)) x442000 x442001 x442002 x442003))) else (none)) else (spec_UsesOf.l0 k x1 x5 (wrap64 (x6 + 1)) x442000 x442001 x442002 x442003)) else (none)) else (none)
end
def spec_UsesOf.f (k : Nat) (l0_0 : List ByteArray) (l0_1 : List Int) (a0_2 : Int) (l0_3 : List (S68)) (a1 : Int) : Option (Int) := spec_UsesOf.l0 k a1 0 0 l0_0 l0_1 a0_2 l0_3
set_option maxHeartbeats 8000000 in
set_option maxRecDepth 100000 in
theorem spec_UsesOf.calls (k : Nat) (A0_0 : Option Addr) (c0_0 : Nat) (l0_0 : List ByteArray) (A0_1 : Option Addr) (c0_1 : Nat) (l0_1 : List Int) (a0_2 : Int) (A0_3 : Option Addr) (c0_3 : Nat) (l0_3 : List (S68)) (a1 : Int) (r : Int) (w : World) (hr0_0 : Kd.C Kd.string w A0_0 l0_0.length l0_0) (hc0_0 : l0_0.length ≤ c0_0) (hr0_1 : Kd.C (Kd.int .i64) w A0_1 l0_1.length l0_1) (hc0_1 : l0_1.length ≤ c0_1) (hr0_3 : Kd.C k68 w A0_3 l0_3.length l0_3) (hc0_3 : l0_3.length ≤ c0_3) (h : spec_UsesOf.f k l0_0 l0_1 a0_2 l0_3 a1 = some r) :
    Calls Try.prog 79 #[.agg #[.slice A0_0 l0_0.length c0_0, .slice A0_1 l0_1.length c0_1, .int .i64 a0_2, .slice A0_3 l0_3.length c0_3], .int .i64 a1] w fun e w' => e = .returned (.int .i64 r) ∧ Below w.heap.size w w' := by
 have hu46 := Try.underlying46
 have hu93 := Try.underlying93
 have HR0_0 := Aside0.mk hr0_0
 have HC0_0 := Aside0.mk hc0_0
 clear hr0_0 hc0_0
 have HR0_1 := Aside0.mk hr0_1
 have HC0_1 := Aside0.mk hc0_1
 clear hr0_1 hc0_1
 have HR0_3 := Aside0.mk hr0_3
 have HC0_3 := Aside0.mk hc0_3
 clear hr0_3 hc0_3
 have HB := Aside0.mk (Below.refl w.heap.size w)
 have H : (spec_UsesOf.l0 k a1 0 0 l0_0 l0_1 a0_2 l0_3) = some r := h
 clear h
 have H' := Aside0.mk H
 clear H
 go_enter Try.func79, Try.ntmps79
 go_wp2_with (first | ((with_reducible refine gate_dst (N := 2) rfl ?_); refine box_event ?hg (N := 2) ?hd (cs := #[.slice A0_0 l0_0.length c0_0, .slice A0_1 l0_1.length c0_1, .int .i64 a0_2, .slice A0_3 l0_3.length c0_3]) (t := 46) ?hr ?_; (case hd => rfl); (case hg => rfl); (case hr => exact g10); intro gb441 hg w3 hbox hb; have n_ := slices_SortStableFunc_int_int_fc_81_46.K4_ (below_step (g4 HB.out) hb) hbox ((g11 HB.out : w.heap.size ≤ gb441)) ((g11 HB.out : w.heap.size ≤ gb441)); clear HB; obtain ⟨HB, BK441, GW441, GE441⟩ := n_; clear hb hbox hg))
 go_loopg [5, 6] k (fun kq v5 v6 w' => ∃ (x5_1 : Int) (x6_1 : Int), v5 = .int .i64 x5_1 ∧ v6 = .int .i64 x6_1 ∧ Aside0 (spec_UsesOf.l0 kq a1 x5_1 x6_1 l0_0 l0_1 a0_2 l0_3 = some r) ∧ Aside0 (kq ≤ k) ∧ Aside0 (w'.heap[gb441]? = some (.cells #[(.slice A0_0 l0_0.length c0_0), (.slice A0_1 l0_1.length c0_1), .int .i64 a0_2, (.slice A0_3 l0_3.length c0_3)] 46 (0, 0))) ∧ Aside0 (Below w.heap.size w w'))
 case atStart => exact ⟨(0), (0), (g0), (g0), H', ⟨Nat.le_refl _⟩, ⟨g2 BK441.out⟩, ⟨g12 HB.out GE441.out⟩⟩
 case round =>
  clear H'
  try clear p2
  obtain ⟨x5_1, x6_1, rfl, rfl, HA, HK1, BK441, HB⟩ := hrel
  cases gk with
  | zero => exact absurd HA.out (by simp [spec_UsesOf.l0])
  | succ k1 =>
   have H := HA.out
   clear HA
   simp only [spec_UsesOf.l0] at H
   by_cases c4 : x6_1 < (l0_3.length : Int)
   case neg =>
    rw [if_neg c4] at H
    have c4b0 : decide (x6_1 < (l0_3.length : Int)) = false := decide_eq_false c4
    clear c4
    obtain rfl := Option.some.inj H
    have hcz26_0 : wr.cell? ⟨gb441, 0, none⟩ = some (.slice A0_0 l0_0.length c0_0) := (blk_cell BK441.out 0).trans rfl
    have hcz26_1 : wr.cell? ⟨gb441, 1, none⟩ = some (.slice A0_1 l0_1.length c0_1) := (blk_cell BK441.out 1).trans rfl
    have hcz26_2 : wr.cell? ⟨gb441, 2, none⟩ = some (.int .i64 a0_2) := (blk_cell BK441.out 2).trans rfl
    have hcz26_3 : wr.cell? ⟨gb441, 3, none⟩ = some (.slice A0_3 l0_3.length c0_3) := (blk_cell BK441.out 3).trans rfl
    have hfz26_0 := blk_frozen BK441.out 0
    have hfz26_1 := blk_frozen BK441.out 1
    have hfz26_2 := blk_frozen BK441.out 2
    have hfz26_3 := blk_frozen BK441.out 3
    go_wp2
    go_ret
    exact ⟨g5, g12 HB.out GE441.out⟩
   rw [if_pos c4] at H
   have c4b0 : decide (x6_1 < (l0_3.length : Int)) = true := decide_eq_true c4
   clear c4
   have H' := Aside0.mk H
   clear H
   have hcz5_0 : wr.cell? ⟨gb441, 0, none⟩ = some (.slice A0_0 l0_0.length c0_0) := (blk_cell BK441.out 0).trans rfl
   have hcz5_1 : wr.cell? ⟨gb441, 1, none⟩ = some (.slice A0_1 l0_1.length c0_1) := (blk_cell BK441.out 1).trans rfl
   have hcz5_2 : wr.cell? ⟨gb441, 2, none⟩ = some (.int .i64 a0_2) := (blk_cell BK441.out 2).trans rfl
   have hcz5_3 : wr.cell? ⟨gb441, 3, none⟩ = some (.slice A0_3 l0_3.length c0_3) := (blk_cell BK441.out 3).trans rfl
   have hfz5_0 := blk_frozen BK441.out 0
   have hfz5_1 := blk_frozen BK441.out 1
   have hfz5_2 := blk_frozen BK441.out 2
   have hfz5_3 := blk_frozen BK441.out 3
   go_wp2
   go_loopg [5, 7] k1 (fun kq v5 v7 w' => ∃ (x5_2 : Int) (x7_2 : Int), v5 = .int .i64 x5_2 ∧ v7 = .int .i64 x7_2 ∧ Aside0 (spec_UsesOf.l1 kq a1 x5_2 x6_1 x7_2 l0_0 l0_1 a0_2 l0_3 = some r) ∧ Aside0 (kq ≤ k1) ∧ Aside0 (w'.heap[gb441]? = some (.cells #[(.slice A0_0 l0_0.length c0_0), (.slice A0_1 l0_1.length c0_1), .int .i64 a0_2, (.slice A0_3 l0_3.length c0_3)] 46 (0, 0))) ∧ Aside0 (Below w.heap.size w w'))
   case atStart => exact ⟨(x5_1), (0), (g0), (g0), H', ⟨Nat.le_refl _⟩, ⟨g2 BK441.out⟩, ⟨g12 HB.out GE441.out⟩⟩
   case round =>
    clear H'
    try clear p2
    try clear c4
    try clear c4b0
    try clear hcz5_0
    try clear hcz5_1
    try clear hcz5_2
    try clear hcz5_3
    try clear hfz5_0
    try clear hfz5_1
    try clear hfz5_2
    try clear hfz5_3
    try clear p2
    obtain ⟨x5_2, x7_2, rfl, rfl, HA, HK2, BK441, HB⟩ := hrel
    cases gk with
    | zero => exact absurd HA.out (by simp [spec_UsesOf.l1])
    | succ k2 =>
     have H := HA.out
     clear HA
     simp only [spec_UsesOf.l1] at H
     by_cases c6 : 0 ≤ x6_1
     case neg =>
      rw [if_neg c6] at H
      exact absurd H (by simp)
     rw [if_pos c6] at H
     have c6b0 : decide (0 ≤ x6_1) = true := decide_eq_true c6
     clear c6
     by_cases c7 : x6_1 < (l0_3.length : Int)
     case neg =>
      rw [if_neg c7] at H
      exact absurd H (by simp)
     rw [if_pos c7] at H
     have c7b0 : decide (x6_1 < (l0_3.length : Int)) = true := decide_eq_true c7
     clear c7
     by_cases c8 : x7_2 < (((rd_T68 l0_3 x6_1).f0).length : Int)
     case neg =>
      rw [if_neg c8] at H
      have c8b0 : decide (x7_2 < (((rd_T68 l0_3 x6_1).f0).length : Int)) = false := decide_eq_false c8
      clear c8
      have H' := Aside0.mk H
      clear H
      have hcz25_0 : wr.cell? ⟨gb441, 0, none⟩ = some (.slice A0_0 l0_0.length c0_0) := (blk_cell BK441.out 0).trans rfl
      have hcz25_1 : wr.cell? ⟨gb441, 1, none⟩ = some (.slice A0_1 l0_1.length c0_1) := (blk_cell BK441.out 1).trans rfl
      have hcz25_2 : wr.cell? ⟨gb441, 2, none⟩ = some (.int .i64 a0_2) := (blk_cell BK441.out 2).trans rfl
      have hcz25_3 : wr.cell? ⟨gb441, 3, none⟩ = some (.slice A0_3 l0_3.length c0_3) := (blk_cell BK441.out 3).trans rfl
      have hfz25_0 := blk_frozen BK441.out 0
      have hfz25_1 := blk_frozen BK441.out 1
      have hfz25_2 := blk_frozen BK441.out 2
      have hfz25_3 := blk_frozen BK441.out 3
      have p442 : 0 ≤ (x6_1 : Int) := of_decide_eq_true (g6)
      have q442 : x6_1 < (l0_3.length : Int) := of_decide_eq_true (g6)
      obtain ⟨ad442, A442_0, c442_0, e442, hx442_0, hl442_0, hi442_0⟩ := at_T68 HR0_3.out x6_1 p442 q442
      cases e442
      replace hx442_0 := (HB.out.cell (World.block_lt_of_cell? w _ hx442_0)).trans hx442_0
      have HR442_0 := Aside0.mk hi442_0
      have HC442_0 := Aside0.mk hl442_0
      clear hi442_0 hl442_0
      replace p442 := eq_true p442
      replace q442 := eq_true q442
      go_wp2
      go_roundg k2
      case measure => have := HK1.out; have := HK2.out; omega
      case rel => exact ⟨(x5_2), (wrap64 (x6_1 + 1)), (g0), (g0), H', ⟨by have := HK1.out; have := HK2.out; omega⟩, ⟨g2 BK441.out⟩, ⟨g12 HB.out GE441.out⟩⟩
     rw [if_pos c8] at H
     have c8b0 : decide (x7_2 < (((rd_T68 l0_3 x6_1).f0).length : Int)) = true := decide_eq_true c8
     clear c8
     by_cases c9 : 0 ≤ x7_2
     case neg =>
      rw [if_neg c9] at H
      exact absurd H (by simp)
     rw [if_pos c9] at H
     have c9b0 : decide (0 ≤ x7_2) = true := decide_eq_true c9
     clear c9
     replace H := Option.bind_eq_some_iff.mp H
     obtain ⟨t446, A100, H⟩ := H
     replace H : (if t446 = true then (if ((rd_T93 ((rd_T68 l0_3 x6_1).f0) x7_2).f0) = a1 then (spec_UsesOf.l1 k2 a1 (wrap64 (x5_2 + 1)) x6_1 (wrap64 (x7_2 + 1)) l0_0 l0_1 a0_2 l0_3) else (spec_UsesOf.l1 k2 a1 x5_2 x6_1 (wrap64 (x7_2 + 1)) l0_0 l0_1 a0_2 l0_3)) else (spec_UsesOf.l1 k2 a1 x5_2 x6_1 (wrap64 (x7_2 + 1)) l0_0 l0_1 a0_2 l0_3)) = some r := H
     have A10 := Aside0.mk A100
     clear A100
     by_cases c11 : t446 = true
     case neg =>
      replace c11 := Bool.eq_false_iff.mpr c11
      subst c11
      have H1 : (spec_UsesOf.l1 k2 a1 x5_2 x6_1 (wrap64 (x7_2 + 1)) l0_0 l0_1 a0_2 l0_3) = some r := by rw [if_neg (show ¬ (false = true) by decide)] at H; exact H
      clear H
      have H := H1
      clear H1
      have H' := Aside0.mk H
      clear H
      have hcz20_0 : wr.cell? ⟨gb441, 0, none⟩ = some (.slice A0_0 l0_0.length c0_0) := (blk_cell BK441.out 0).trans rfl
      have hcz20_1 : wr.cell? ⟨gb441, 1, none⟩ = some (.slice A0_1 l0_1.length c0_1) := (blk_cell BK441.out 1).trans rfl
      have hcz20_2 : wr.cell? ⟨gb441, 2, none⟩ = some (.int .i64 a0_2) := (blk_cell BK441.out 2).trans rfl
      have hcz20_3 : wr.cell? ⟨gb441, 3, none⟩ = some (.slice A0_3 l0_3.length c0_3) := (blk_cell BK441.out 3).trans rfl
      have hfz20_0 := blk_frozen BK441.out 0
      have hfz20_1 := blk_frozen BK441.out 1
      have hfz20_2 := blk_frozen BK441.out 2
      have hfz20_3 := blk_frozen BK441.out 3
      have p442 : 0 ≤ (x6_1 : Int) := of_decide_eq_true (g6)
      have q442 : x6_1 < (l0_3.length : Int) := of_decide_eq_true (g6)
      obtain ⟨ad442, A442_0, c442_0, e442, hx442_0, hl442_0, hi442_0⟩ := at_T68 HR0_3.out x6_1 p442 q442
      cases e442
      replace hx442_0 := (HB.out.cell (World.block_lt_of_cell? w _ hx442_0)).trans hx442_0
      have HR442_0 := Aside0.mk hi442_0
      have HC442_0 := Aside0.mk hl442_0
      clear hi442_0 hl442_0
      replace p442 := eq_true p442
      replace q442 := eq_true q442
      have p443 : 0 ≤ (x6_1 : Int) := of_decide_eq_true (g6)
      have q443 : x6_1 < (l0_3.length : Int) := of_decide_eq_true (g6)
      obtain ⟨ad443, A443_0, c443_0, e443, hx443_0, hl443_0, hi443_0⟩ := at_T68 HR0_3.out x6_1 p443 q443
      obtain rfl : ad442 = ad443 := (by injection e443)
      replace hx443_0 := (HB.out.cell (World.block_lt_of_cell? w _ hx443_0)).trans hx443_0
      have HR443_0 := Aside0.mk hi443_0
      have HC443_0 := Aside0.mk hl443_0
      clear hi443_0 hl443_0
      replace p443 := eq_true p443
      replace q443 := eq_true q443
      have ea_ := Option.some.inj (hx442_0.symm.trans hx443_0)
      injection ea_ with ea_ en_ ec_
      subst ea_
      subst ec_
      clear en_
      have p444 : 0 ≤ (x7_2 : Int) := of_decide_eq_true (g6)
      have q444 : x7_2 < (((rd_T68 l0_3 x6_1).f0).length : Int) := of_decide_eq_true (g6)
      obtain ⟨ad444, e444, hx444_0, hx444_1, hx444_2, hx444_3, hx444_4⟩ := at_T93 HR443_0.out x7_2 p444 q444
      cases e444
      replace hx444_0 := (HB.out.cell (World.block_lt_of_cell? w _ hx444_0)).trans hx444_0
      replace hx444_1 := (HB.out.cell (World.block_lt_of_cell? w _ hx444_1)).trans hx444_1
      replace hx444_2 := (HB.out.cell (World.block_lt_of_cell? w _ hx444_2)).trans hx444_2
      replace hx444_3 := (HB.out.cell (World.block_lt_of_cell? w _ hx444_3)).trans hx444_3
      replace hx444_4 := (HB.out.cell (World.block_lt_of_cell? w _ hx444_4)).trans hx444_4
      replace p444 := eq_true p444
      replace q444 := eq_true q444
      go_wp2_with (first | ((with_reducible refine gate_dst (N := 8) rfl ?_); refine box_event ?hg (N := 8) ?hd (cs := #[.int .i64 0, .int .i64 0, .int .i64 0, .int .i64 0, .int .i64 0]) (t := 93) ?hr ?_; (case hd => rfl); (case hg => rfl); (case hr => exact g10); intro gb445 hg w21 hbox hb; have n_ := slices_SortStableFunc_int_int_fc_81_46.K7_ (blk_below (g := gb441) (o := .cells #[.slice A0_0 l0_0.length c0_0, .slice A0_1 l0_1.length c0_1, .int .i64 a0_2, .slice (some ad442) l0_3.length c0_3] 46 (0, 0)) (g2 BK441.out) hb) (below_step (g12 HB.out GE441.out) hb) hbox ((g16 HB.out GE441.out : w.heap.size ≤ gb445)) ((g16 HB.out GE441.out : w.heap.size ≤ gb445)) ((slices_SortStableFunc_int_int_fc_81_46.z0 : gb441 ≠ gb445)) ((slices_SortStableFunc_int_int_fc_81_46.z1 : gb445 ≠ gb441)); clear BK441 HB; obtain ⟨BK441, HB, BK445, GW445, GE445, NB441_445, NB445_441⟩ := n_; clear hb hbox hg; have hnb22 := NB445_441.out; have hnc22 := NB441_445.out; have hcz23_0 : w21.cell? ⟨gb445, 0, none⟩ = some (.int .i64 0) := (blk_cell BK445.out 0).trans rfl; have hcz23_1 : w21.cell? ⟨gb445, 1, none⟩ = some (.int .i64 0) := (blk_cell BK445.out 1).trans rfl; have hcz23_2 : w21.cell? ⟨gb445, 2, none⟩ = some (.int .i64 0) := (blk_cell BK445.out 2).trans rfl; have hcz23_3 : w21.cell? ⟨gb445, 3, none⟩ = some (.int .i64 0) := (blk_cell BK445.out 3).trans rfl; have hcz23_4 : w21.cell? ⟨gb445, 4, none⟩ = some (.int .i64 0) := (blk_cell BK445.out 4).trans rfl; have hfz23_0 := blk_frozen BK445.out 0; have hfz23_1 := blk_frozen BK445.out 1; have hfz23_2 := blk_frozen BK445.out 2; have hfz23_3 := blk_frozen BK445.out 3; have hfz23_4 := blk_frozen BK445.out 4) | ((with_reducible refine gate_callee (f := 117) rfl ?_); refine goesL_ (some 37) rfl rfl Try.func117 (by kernel_rfl) rfl #[.agg #[.int .i64 ((rd_T93 ((rd_T68 l0_3 x6_1).f0) x7_2).f0), .int .i64 ((rd_T93 ((rd_T68 l0_3 x6_1).f0) x7_2).f1), .int .i64 ((rd_T93 ((rd_T68 l0_3 x6_1).f0) x7_2).f2), .int .i64 ((rd_T93 ((rd_T68 l0_3 x6_1).f0) x7_2).f3), .int .i64 ((rd_T93 ((rd_T68 l0_3 x6_1).f0) x7_2).f4)]] rfl (g9) ?_; (with_reducible refine (spec_l17Inner.calls ((rd_T93 ((rd_T68 l0_3 x6_1).f0) x7_2).f0) ((rd_T93 ((rd_T68 l0_3 x6_1).f0) x7_2).f1) ((rd_T93 ((rd_T68 l0_3 x6_1).f0) x7_2).f2) ((rd_T93 ((rd_T68 l0_3 x6_1).f0) x7_2).f3) ((rd_T93 ((rd_T68 l0_3 x6_1).f0) x7_2).f4) false _ A10.out).mono ?_); rintro e w24 ⟨rfl, hb⟩; refine ⟨_, rfl, ?_⟩; have n_ := slices_SortStableFunc_int_int_fc_81_46.K3_ (blk_below (g := gb441) (o := .cells #[.slice A0_0 l0_0.length c0_0, .slice A0_1 l0_1.length c0_1, .int .i64 a0_2, .slice (some ad442) l0_3.length c0_3] 46 (0, 0)) (g17 NB441_445.out BK441.out) hb) (blk_below (g := gb445) (o := .cells #[.int .i64 ((rd_T93 ((rd_T68 l0_3 x6_1).f0) x7_2).f0), .int .i64 ((rd_T93 ((rd_T68 l0_3 x6_1).f0) x7_2).f1), .int .i64 ((rd_T93 ((rd_T68 l0_3 x6_1).f0) x7_2).f2), .int .i64 ((rd_T93 ((rd_T68 l0_3 x6_1).f0) x7_2).f3), .int .i64 ((rd_T93 ((rd_T68 l0_3 x6_1).f0) x7_2).f4)] 93 (0, 0)) slices_SortStableFunc_int_int_fc_81_46.z2 hb) (below_step (g18 HB.out GE441.out GE445.out) hb); clear BK441 BK445 HB; obtain ⟨BK441, BK445, HB⟩ := n_; (try clear hb); (try clear hb2); (try clear hk); (try clear hi)))
      go_roundg k2
      case measure => have := HK1.out; have := HK2.out; omega
      case rel => exact ⟨(x5_2), (wrap64 (x7_2 + 1)), (g0), (g0), H', ⟨by have := HK1.out; have := HK2.out; omega⟩, ⟨g2 BK441.out⟩, ⟨g18 HB.out GE441.out GE445.out⟩⟩
     subst c11
     have H1 : (if ((rd_T93 ((rd_T68 l0_3 x6_1).f0) x7_2).f0) = a1 then (spec_UsesOf.l1 k2 a1 (wrap64 (x5_2 + 1)) x6_1 (wrap64 (x7_2 + 1)) l0_0 l0_1 a0_2 l0_3) else (spec_UsesOf.l1 k2 a1 x5_2 x6_1 (wrap64 (x7_2 + 1)) l0_0 l0_1 a0_2 l0_3)) = some r := by rw [if_pos rfl] at H; exact H
     clear H
     have H := H1
     clear H1
     have HZ12 := Aside0.mk H
     clear H
     have hcz13_0 : wr.cell? ⟨gb441, 0, none⟩ = some (.slice A0_0 l0_0.length c0_0) := (blk_cell BK441.out 0).trans rfl
     have hcz13_1 : wr.cell? ⟨gb441, 1, none⟩ = some (.slice A0_1 l0_1.length c0_1) := (blk_cell BK441.out 1).trans rfl
     have hcz13_2 : wr.cell? ⟨gb441, 2, none⟩ = some (.int .i64 a0_2) := (blk_cell BK441.out 2).trans rfl
     have hcz13_3 : wr.cell? ⟨gb441, 3, none⟩ = some (.slice A0_3 l0_3.length c0_3) := (blk_cell BK441.out 3).trans rfl
     have hfz13_0 := blk_frozen BK441.out 0
     have hfz13_1 := blk_frozen BK441.out 1
     have hfz13_2 := blk_frozen BK441.out 2
     have hfz13_3 := blk_frozen BK441.out 3
     have p442 : 0 ≤ (x6_1 : Int) := of_decide_eq_true (g6)
     have q442 : x6_1 < (l0_3.length : Int) := of_decide_eq_true (g6)
     obtain ⟨ad442, A442_0, c442_0, e442, hx442_0, hl442_0, hi442_0⟩ := at_T68 HR0_3.out x6_1 p442 q442
     cases e442
     replace hx442_0 := (HB.out.cell (World.block_lt_of_cell? w _ hx442_0)).trans hx442_0
     have HR442_0 := Aside0.mk hi442_0
     have HC442_0 := Aside0.mk hl442_0
     clear hi442_0 hl442_0
     replace p442 := eq_true p442
     replace q442 := eq_true q442
     have p443 : 0 ≤ (x6_1 : Int) := of_decide_eq_true (g6)
     have q443 : x6_1 < (l0_3.length : Int) := of_decide_eq_true (g6)
     obtain ⟨ad443, A443_0, c443_0, e443, hx443_0, hl443_0, hi443_0⟩ := at_T68 HR0_3.out x6_1 p443 q443
     obtain rfl : ad442 = ad443 := (by injection e443)
     replace hx443_0 := (HB.out.cell (World.block_lt_of_cell? w _ hx443_0)).trans hx443_0
     have HR443_0 := Aside0.mk hi443_0
     have HC443_0 := Aside0.mk hl443_0
     clear hi443_0 hl443_0
     replace p443 := eq_true p443
     replace q443 := eq_true q443
     have ea_ := Option.some.inj (hx442_0.symm.trans hx443_0)
     injection ea_ with ea_ en_ ec_
     subst ea_
     subst ec_
     clear en_
     have p444 : 0 ≤ (x7_2 : Int) := of_decide_eq_true (g6)
     have q444 : x7_2 < (((rd_T68 l0_3 x6_1).f0).length : Int) := of_decide_eq_true (g6)
     obtain ⟨ad444, e444, hx444_0, hx444_1, hx444_2, hx444_3, hx444_4⟩ := at_T93 HR443_0.out x7_2 p444 q444
     cases e444
     replace hx444_0 := (HB.out.cell (World.block_lt_of_cell? w _ hx444_0)).trans hx444_0
     replace hx444_1 := (HB.out.cell (World.block_lt_of_cell? w _ hx444_1)).trans hx444_1
     replace hx444_2 := (HB.out.cell (World.block_lt_of_cell? w _ hx444_2)).trans hx444_2
     replace hx444_3 := (HB.out.cell (World.block_lt_of_cell? w _ hx444_3)).trans hx444_3
     replace hx444_4 := (HB.out.cell (World.block_lt_of_cell? w _ hx444_4)).trans hx444_4
     replace p444 := eq_true p444
     replace q444 := eq_true q444
     go_upto_if 43 with (first | ((with_reducible refine gate_dst (N := 8) rfl ?_); refine box_event ?hg (N := 8) ?hd (cs := #[.int .i64 0, .int .i64 0, .int .i64 0, .int .i64 0, .int .i64 0]) (t := 93) ?hr ?_; (case hd => rfl); (case hg => rfl); (case hr => exact g10); intro gb445 hg w14 hbox hb; have n_ := slices_SortStableFunc_int_int_fc_81_46.K7_ (blk_below (g := gb441) (o := .cells #[.slice A0_0 l0_0.length c0_0, .slice A0_1 l0_1.length c0_1, .int .i64 a0_2, .slice (some ad442) l0_3.length c0_3] 46 (0, 0)) (g2 BK441.out) hb) (below_step (g12 HB.out GE441.out) hb) hbox ((g16 HB.out GE441.out : w.heap.size ≤ gb445)) ((g16 HB.out GE441.out : w.heap.size ≤ gb445)) ((slices_SortStableFunc_int_int_fc_81_46.z0 : gb441 ≠ gb445)) ((slices_SortStableFunc_int_int_fc_81_46.z1 : gb445 ≠ gb441)); clear BK441 HB; obtain ⟨BK441, HB, BK445, GW445, GE445, NB441_445, NB445_441⟩ := n_; clear hb hbox hg; have hnb15 := NB445_441.out; have hnc15 := NB441_445.out; have hcz16_0 : w14.cell? ⟨gb445, 0, none⟩ = some (.int .i64 0) := (blk_cell BK445.out 0).trans rfl; have hcz16_1 : w14.cell? ⟨gb445, 1, none⟩ = some (.int .i64 0) := (blk_cell BK445.out 1).trans rfl; have hcz16_2 : w14.cell? ⟨gb445, 2, none⟩ = some (.int .i64 0) := (blk_cell BK445.out 2).trans rfl; have hcz16_3 : w14.cell? ⟨gb445, 3, none⟩ = some (.int .i64 0) := (blk_cell BK445.out 3).trans rfl; have hcz16_4 : w14.cell? ⟨gb445, 4, none⟩ = some (.int .i64 0) := (blk_cell BK445.out 4).trans rfl; have hfz16_0 := blk_frozen BK445.out 0; have hfz16_1 := blk_frozen BK445.out 1; have hfz16_2 := blk_frozen BK445.out 2; have hfz16_3 := blk_frozen BK445.out 3; have hfz16_4 := blk_frozen BK445.out 4) | ((with_reducible refine gate_callee (f := 117) rfl ?_); refine goesL_ (some 37) rfl rfl Try.func117 (by kernel_rfl) rfl #[.agg #[.int .i64 ((rd_T93 ((rd_T68 l0_3 x6_1).f0) x7_2).f0), .int .i64 ((rd_T93 ((rd_T68 l0_3 x6_1).f0) x7_2).f1), .int .i64 ((rd_T93 ((rd_T68 l0_3 x6_1).f0) x7_2).f2), .int .i64 ((rd_T93 ((rd_T68 l0_3 x6_1).f0) x7_2).f3), .int .i64 ((rd_T93 ((rd_T68 l0_3 x6_1).f0) x7_2).f4)]] rfl (g9) ?_; (with_reducible refine (spec_l17Inner.calls ((rd_T93 ((rd_T68 l0_3 x6_1).f0) x7_2).f0) ((rd_T93 ((rd_T68 l0_3 x6_1).f0) x7_2).f1) ((rd_T93 ((rd_T68 l0_3 x6_1).f0) x7_2).f2) ((rd_T93 ((rd_T68 l0_3 x6_1).f0) x7_2).f3) ((rd_T93 ((rd_T68 l0_3 x6_1).f0) x7_2).f4) true _ A10.out).mono ?_); rintro e w17 ⟨rfl, hb⟩; refine ⟨_, rfl, ?_⟩; have n_ := slices_SortStableFunc_int_int_fc_81_46.K3_ (blk_below (g := gb441) (o := .cells #[.slice A0_0 l0_0.length c0_0, .slice A0_1 l0_1.length c0_1, .int .i64 a0_2, .slice (some ad442) l0_3.length c0_3] 46 (0, 0)) (g17 NB441_445.out BK441.out) hb) (blk_below (g := gb445) (o := .cells #[.int .i64 ((rd_T93 ((rd_T68 l0_3 x6_1).f0) x7_2).f0), .int .i64 ((rd_T93 ((rd_T68 l0_3 x6_1).f0) x7_2).f1), .int .i64 ((rd_T93 ((rd_T68 l0_3 x6_1).f0) x7_2).f2), .int .i64 ((rd_T93 ((rd_T68 l0_3 x6_1).f0) x7_2).f3), .int .i64 ((rd_T93 ((rd_T68 l0_3 x6_1).f0) x7_2).f4)] 93 (0, 0)) slices_SortStableFunc_int_int_fc_81_46.z2 hb) (below_step (g18 HB.out GE441.out GE445.out) hb); clear BK441 BK445 HB; obtain ⟨BK441, BK445, HB⟩ := n_; (try clear hb); (try clear hb2); (try clear hk); (try clear hi); have hcz18_0 : w17.cell? ⟨gb445, 0, none⟩ = some (.int .i64 ((rd_T93 ((rd_T68 l0_3 x6_1).f0) x7_2).f0)) := (blk_cell BK445.out 0).trans rfl; have hcz18_1 : w17.cell? ⟨gb445, 1, none⟩ = some (.int .i64 ((rd_T93 ((rd_T68 l0_3 x6_1).f0) x7_2).f1)) := (blk_cell BK445.out 1).trans rfl; have hcz18_2 : w17.cell? ⟨gb445, 2, none⟩ = some (.int .i64 ((rd_T93 ((rd_T68 l0_3 x6_1).f0) x7_2).f2)) := (blk_cell BK445.out 2).trans rfl; have hcz18_3 : w17.cell? ⟨gb445, 3, none⟩ = some (.int .i64 ((rd_T93 ((rd_T68 l0_3 x6_1).f0) x7_2).f3)) := (blk_cell BK445.out 3).trans rfl; have hcz18_4 : w17.cell? ⟨gb445, 4, none⟩ = some (.int .i64 ((rd_T93 ((rd_T68 l0_3 x6_1).f0) x7_2).f4)) := (blk_cell BK445.out 4).trans rfl; have hfz18_0 := blk_frozen BK445.out 0; have hfz18_1 := blk_frozen BK445.out 1; have hfz18_2 := blk_frozen BK445.out 2; have hfz18_3 := blk_frozen BK445.out 3; have hfz18_4 := blk_frozen BK445.out 4))
     (try simp only [Act.put, List.setIfInBounds_toArray, List.set_cons_zero, List.set_cons_succ])
     have H := HZ12.out
     clear HZ12
     by_cases c19 : ((rd_T93 ((rd_T68 l0_3 x6_1).f0) x7_2).f0) = a1
     case neg =>
      rw [if_neg c19] at H
      have c19b0 : (((rd_T93 ((rd_T68 l0_3 x6_1).f0) x7_2).f0) == a1) = false := beq_eq_false_iff_ne.mpr c19
      have c19b1 : (((rd_T93 ((rd_T68 l0_3 x6_1).f0) x7_2).f0) != a1) = true := bne_iff_ne.mpr c19
      (first | rw [c19b0] | (simp only [i64_w, i32_w]; rw [c19b0]) | skip)
      have H' := Aside0.mk H
      clear H
      go_wp2
      go_roundg k2
      case measure => have := HK1.out; have := HK2.out; omega
      case rel => exact ⟨(x5_2), (wrap64 (x7_2 + 1)), (g0), (g0), H', ⟨by have := HK1.out; have := HK2.out; omega⟩, ⟨g2 BK441.out⟩, ⟨g18 HB.out GE441.out GE445.out⟩⟩
     rw [if_pos c19] at H
     have c19b0 : (((rd_T93 ((rd_T68 l0_3 x6_1).f0) x7_2).f0) == a1) = true := beq_iff_eq.mpr c19
     have c19b1 : (((rd_T93 ((rd_T68 l0_3 x6_1).f0) x7_2).f0) != a1) = false := bne_eq_false_iff_eq.mpr c19
     clear c19
     (first | rw [c19b0] | (simp only [i64_w, i32_w]; rw [c19b0]) | skip)
     have H' := Aside0.mk H
     clear H
     go_wp2
     go_roundg k2
     case measure => have := HK1.out; have := HK2.out; omega
     case rel => exact ⟨(wrap64 (x5_2 + 1)), (wrap64 (x7_2 + 1)), (g0), (g0), H', ⟨by have := HK1.out; have := HK2.out; omega⟩, ⟨g2 BK441.out⟩, ⟨g18 HB.out GE441.out GE445.out⟩⟩
end Go.Proofs.Yteoikmbdpofhmaa.XFnUses
